/- Proved here: topShares_holds (the law TopSharesSaid answers true at every input), with no condition. -/
import Derived.Test.YtkohflnifdpahaaGreatS16
import Derived.Test.YtkohflnifdpahaaGreatS20
import Derived.Test.YtkohflnifdpahaaGreatS15
import Derived.Test.YtkohflnifdpahaaGreatS17
import Derived.Test.YtkohflnifdpahaaGreatS10
set_option linter.all false
namespace Go.V
open Go.Proofs
theorem best_a (N:Nat) (xs:List Int) (fv:Value) {ys:List Int} (hys:cut xs (1:Int) (lenI xs)=ys) (hl:ys.length<1000000):∀ (n:Nat) (out:Int) (i:Nat),i<=ys.length->ys.length<n+i ->
    ∃ r,L123a_0 N n (xs,(fv,())) out (i:Int) = .ret r/\r<=out/\(∀ (j:Nat) (h:j<ys.length),i<=j->r<=ys[j])/\(r=out\/r∈ys):=by
  intro n
  induction n with
  | zero=>intro out i h1 h2;omega
  | succ n ih =>
    intro out i h1 h2
    rw [L123a_0_succ]
    dsimp only
    rw [hys]
    by_cases h:i<ys.length
    . have e1:decide ((i:Int)<lenI ys)=true:=by unfold lenI;simp only [decide_eq_true_eq];omega
      have e2:inb (i:Int) ys.length=true:=by unfold inb;simp only [Bool.and_eq_true,decide_eq_true_eq];omega
      have e3:List.getD ys (i:Int).toNat (0:Int)=ys[i]:=by rw [Int.toNat_natCast,List.getD_eq_getElem?_getD,List.getElem?_eq_getElem h];rfl
      have e4:IntKind.i64.wrap ((i:Int)+1)=((i+1:Nat):Int):=wrap_small (by omega)
      rw [e1,e2,e3,e4]
      simp only [cond_true]
      by_cases hlt:ys[i]<out
      . rw [decide_eq_true hlt]
        obtain ⟨r,a1,a2,a3,a4⟩:=ih ys[i] (i+1) (by omega) (by omega)
        refine ⟨r,a1,by omega,fun j hj hij=>?_,.inr ?_⟩
        . by_cases e:j=i
          . subst e;exact a2
          . exact a3 j hj (by omega)
        . rcases a4 with rfl|a4
          . exact List.getElem_mem h
          . exact a4
      . rw [decide_eq_false hlt]
        obtain ⟨r,a1,a2,a3,a4⟩:=ih out (i+1) (by omega) (by omega)
        refine ⟨r,a1,a2,fun j hj hij=>?_,a4⟩
        by_cases e:j=i
        . subst e;omega
        . exact a3 j hj (by omega)
    . have e1:decide ((i:Int)<lenI ys)=false:=by unfold lenI;simp only [decide_eq_false_iff_not];omega
      rw [e1]
      exact ⟨out,rfl,by omega,fun j hj hij=>by omega,.inl rfl⟩
theorem end_a {xs:List Int} {y:Int} (hy:y∈xs) (hall:∀ x∈xs,y<=x) (hl:xs.length<1000000):f123a (xs,((Value.func (.func 124) #[] #[]),())) = .ret y:=by
  have e0:f123a (xs,((Value.func (.func 124) #[] #[]),()))=F123a fuel (xs,((Value.func (.func 124) #[] #[]),())):=by
    unfold f123a
    exact e123a fuel (xs,((Value.func (.func 124) #[] #[]),()))
  rw [e0]
  unfold F123a
  dsimp only
  obtain ⟨x0,xt,rfl⟩:∃ x0 xt,xs=x0 :: xt:=by
    cases xs with
    | nil=>cases hy
    | cons a b=>exact ⟨a,b,rfl⟩
  have hcut:cut (x0 :: xt) (1:Int) (lenI (x0 :: xt))=xt:=by
    unfold cut lenI
    rw [show (1:Int).toNat=1 from rfl,Int.toNat_natCast]
    show List.take _ xt=xt
    rw [List.take_of_length_le (by simp)]
  have hl:xt.length+1<1000000:=by simpa using hl
  have e1:inb (0:Int) (x0 :: xt).length=true:=by unfold inb;simp only [Bool.and_eq_true,decide_eq_true_eq,List.length_cons];omega
  have e2:cutOk (1:Int) (lenI (x0 :: xt)) (lenI (x0 :: xt))=true:=by unfold cutOk lenI;simp only [Bool.and_eq_true,decide_eq_true_eq,List.length_cons];omega
  rw [e1,e2]
  simp only [cond_true]
  have hf:1000000<=fuel:=by unfold fuel;decide
  obtain ⟨r,a1,a2,a3,a4⟩:=best_a fuel (x0 :: xt) (Value.func (.func 124) #[] #[]) hcut (by omega) fuel x0 0 (by omega) (by omega)
  have e3:List.getD (x0 :: xt) (0:Int).toNat (0:Int)=x0:=rfl
  rw [e3]
  refine a1.trans ?_
  have hr:r∈x0 :: xt:=by
    rcases a4 with rfl|a4
    . exact List.mem_cons_self
    . exact List.mem_cons_of_mem _ a4
  have h1:=hall r hr
  have h2:r<=y:=by
    rcases List.mem_cons.1 hy with rfl|hy
    . exact a2
    . obtain ⟨j,hj,rfl⟩:=List.mem_iff_getElem.1 hy
      exact a3 j hj (by omega)
  rw [show r=y by omega]
theorem best_b (N:Nat) (xs:List Int) (fv:Value) {ys:List Int} (hys:cut xs (1:Int) (lenI xs)=ys) (hl:ys.length<1000000):∀ (n:Nat) (out:Int) (i:Nat),i<=ys.length->ys.length<n+i ->
    ∃ r,L123b_0 N n (xs,(fv,())) out (i:Int) = .ret r/\out<=r/\(∀ (j:Nat) (h:j<ys.length),i<=j->ys[j]<=r)/\(r=out\/r∈ys):=by
  intro n
  induction n with
  | zero=>intro out i h1 h2;omega
  | succ n ih =>
    intro out i h1 h2
    rw [L123b_0_succ]
    dsimp only
    rw [hys]
    by_cases h:i<ys.length
    . have e1:decide ((i:Int)<lenI ys)=true:=by unfold lenI;simp only [decide_eq_true_eq];omega
      have e2:inb (i:Int) ys.length=true:=by unfold inb;simp only [Bool.and_eq_true,decide_eq_true_eq];omega
      have e3:List.getD ys (i:Int).toNat (0:Int)=ys[i]:=by rw [Int.toNat_natCast,List.getD_eq_getElem?_getD,List.getElem?_eq_getElem h];rfl
      have e4:IntKind.i64.wrap ((i:Int)+1)=((i+1:Nat):Int):=wrap_small (by omega)
      rw [e1,e2,e3,e4]
      simp only [cond_true]
      by_cases hlt:ys[i] > out
      . rw [decide_eq_true hlt]
        obtain ⟨r,a1,a2,a3,a4⟩:=ih ys[i] (i+1) (by omega) (by omega)
        refine ⟨r,a1,by omega,fun j hj hij=>?_,.inr ?_⟩
        . by_cases e:j=i
          . subst e;exact a2
          . exact a3 j hj (by omega)
        . rcases a4 with rfl|a4
          . exact List.getElem_mem h
          . exact a4
      . rw [decide_eq_false hlt]
        obtain ⟨r,a1,a2,a3,a4⟩:=ih out (i+1) (by omega) (by omega)
        refine ⟨r,a1,a2,fun j hj hij=>?_,a4⟩
        by_cases e:j=i
        . subst e;omega
        . exact a3 j hj (by omega)
    . have e1:decide ((i:Int)<lenI ys)=false:=by unfold lenI;simp only [decide_eq_false_iff_not];omega
      rw [e1]
      exact ⟨out,rfl,by omega,fun j hj hij=>by omega,.inl rfl⟩
theorem end_b {xs:List Int} {y:Int} (hy:y∈xs) (hall:∀ x∈xs,x<=y) (hl:xs.length<1000000):f123a (xs,((Value.func (.func 125) #[] #[]),())) = .ret y:=by
  have e0:f123a (xs,((Value.func (.func 125) #[] #[]),()))=F123b fuel (xs,((Value.func (.func 125) #[] #[]),())):=by
    unfold f123a
    exact e123b fuel (xs,((Value.func (.func 125) #[] #[]),()))
  rw [e0]
  unfold F123b
  dsimp only
  obtain ⟨x0,xt,rfl⟩:∃ x0 xt,xs=x0 :: xt:=by
    cases xs with
    | nil=>cases hy
    | cons a b=>exact ⟨a,b,rfl⟩
  have hcut:cut (x0 :: xt) (1:Int) (lenI (x0 :: xt))=xt:=by
    unfold cut lenI
    rw [show (1:Int).toNat=1 from rfl,Int.toNat_natCast]
    show List.take _ xt=xt
    rw [List.take_of_length_le (by simp)]
  have hl:xt.length+1<1000000:=by simpa using hl
  have e1:inb (0:Int) (x0 :: xt).length=true:=by unfold inb;simp only [Bool.and_eq_true,decide_eq_true_eq,List.length_cons];omega
  have e2:cutOk (1:Int) (lenI (x0 :: xt)) (lenI (x0 :: xt))=true:=by unfold cutOk lenI;simp only [Bool.and_eq_true,decide_eq_true_eq,List.length_cons];omega
  rw [e1,e2]
  simp only [cond_true]
  have hf:1000000<=fuel:=by unfold fuel;decide
  obtain ⟨r,a1,a2,a3,a4⟩:=best_b fuel (x0 :: xt) (Value.func (.func 125) #[] #[]) hcut (by omega) fuel x0 0 (by omega) (by omega)
  have e3:List.getD (x0 :: xt) (0:Int).toNat (0:Int)=x0:=rfl
  rw [e3]
  refine a1.trans ?_
  have hr:r∈x0 :: xt:=by
    rcases a4 with rfl|a4
    . exact List.mem_cons_self
    . exact List.mem_cons_of_mem _ a4
  have h1:=hall r hr
  have h2:y<=r:=by
    rcases List.mem_cons.1 hy with rfl|hy
    . exact a2
    . obtain ⟨j,hj,rfl⟩:=List.mem_iff_getElem.1 hy
      exact a3 j hj (by omega)
  rw [show r=y by omega]
theorem ends_is {xs:List Int} {lo hi:Int} (h1:lo∈xs) (h2:hi∈xs) (h:∀ x∈xs,lo<=x/\x<=hi) (hl:xs.length<1000000):f94 (xs,()) = .ret (lo,hi,()):=by
  unfold f94 F94
  dsimp only
  rw [end_a h1 (fun x hx=>(h x hx).1) hl]
  dsimp only
  rw [end_b h2 (fun x hx=>(h x hx).2) hl]
def D0:RSH:=(10,3,[4,1,0],[13,26,44],())
def T0:TAB:=(D0,1,())
def Sup (g:GF) (a b:Int):Prop:=∀ j,(j<a\/b<j)->g j=none
theorem run_none (gO:GF) (tab:TAB) {j:Int}:∀ (ys:List Int) (g:GF),g j=none->(∀ n∈ys,gO (j - n)=none)->runG gO tab g ys j=none
  | [],g,h,_=>h
  | n :: ys,g,h,hn=>by
    show runG gO tab (stepG gO n (figN tab n) g) ys j=none
    refine run_none gO tab ys _ ?_ fun m hm=>hn m (List.mem_cons_of_mem _ hm)
    show (match gO (j - n) with|some p=>some (merged g j (yOf (figN tab n) p))|none=>g j)=none
    rw [hn n List.mem_cons_self]
    exact h
theorem run_sup {gO:GF} {a b:Int} (h:Sup gO a b) (tab:TAB) {lo hi:Int} {ys:List Int} (hy:∀ n∈ys,lo<=n/\n<=hi):Sup (runG gO tab (fun _=>none) ys) (a+lo) (b+hi):=fun j hj=>run_none gO tab ys _ rfl fun n hn=>h _ (by have:=hy n hn;omega)
theorem Sup.bd {g:GF} {a b:Int} (h:Sup g a b) (h1 : -1000000<=a) (h2:b<=1000000):Bd g:=fun k p hk=>by
  by_cases hj:k<a\/b<k
  . rw [h k hj] at hk;cases hk
  . omega
noncomputable def g1:GF:=runG g93 T0 (fun _=>none) [12,13,14]
noncomputable def g2:GF:=runG g1 T0 (fun _=>none) [25,26,27]
noncomputable def g3:GF:=runG g2 T0 (fun _=>none) [43,44,45]
theorem s0:Sup g93 0 0:=fun j hj=>by unfold g93 upd;rw [if_neg (by omega)]
theorem s1:Sup g1 12 14:=run_sup (ys:=[12,13,14]) (lo:=12) (hi:=14) s0 T0 (by decide)
theorem s2:Sup g2 37 41:=run_sup (ys:=[25,26,27]) (lo:=25) (hi:=27) s1 T0 (by decide)
theorem s3:Sup g3 80 86:=run_sup (ys:=[43,44,45]) (lo:=43) (hi:=45) s2 T0 (by decide)
theorem g3_80:g3 80=some (8,8):=by kernel_rfl
theorem g3_81:g3 81=some (8,8):=by kernel_rfl
theorem g3_82:g3 82=some (8,9):=by kernel_rfl
theorem g3_83:g3 83=some (8,9):=by kernel_rfl
theorem g3_84:g3 84=some (8,9):=by kernel_rfl
theorem g3_85:g3 85=some (8,9):=by kernel_rfl
theorem g3_86:g3 86=some (9,9):=by kernel_rfl
theorem sums_step {tab:TAB} {m:Nat} {row row':Int} {gO:GF} {nO:Nat} {sp:Int×Int×Unit} {ys:List Int} {c:Nat} (h1:decide (row<lenR tab)=true) (h2:f137 (tab,(row,())) = .ret sp) (h3:((decide (-1000000000<sp.1) && decide (sp.2.1<1000000000)) && (decide (sp.1<=sp.2.1+1) && decide ((sp.2.1+1 - sp.1).toNat<fuel)))=true) (h4:exactL sp.1 sp.2.1 (sp.2.1+1 - sp.1).toNat=ys) (h5:ys.all (okN tab)=true) (h6:Bd gO) (h7:(sp.2.1+1 - sp.1).toNat=c) (h8:c * nO<1000000) (h9:IntKind.i64.wrap (row+1)=row') :
    sumsR tab (m+1) row gO nO=sumsR tab m row' (runG gO tab (fun _=>none) ys) (c * nO):=by
  conv=>lhs;unfold sumsR
  rw [h1,h2]
  dsimp only
  rw [h3,h4,h5,bdB_iff.2 h6,h7,h9,decide_eq_true h8]
  rfl
theorem sums_end {tab:TAB} {m:Nat} {row:Int} {gO:GF} {nO:Nat} (h1:decide (row<lenR tab)=false):sumsR tab (m+1) row gO nO = .ret (gO,nO):=by
  conv=>lhs;unfold sumsR
  rw [h1]
theorem fuel_lt {n:Nat} (h:n<1000):decide (n<fuel)=true:=by
  unfold fuel
  simp only [decide_eq_true_eq]
  omega
theorem k137_0:f137 (T0,(0,())) = .ret (12,14,()):=by kernel_rfl
theorem k137_1:f137 (T0,(1,())) = .ret (25,27,()):=by kernel_rfl
theorem k137_2:f137 (T0,(2,())) = .ret (43,45,()):=by kernel_rfl
theorem kok_0:([12,13,14]:List Int).all (okN T0)=true:=by kernel_rfl
theorem kok_1:([25,26,27]:List Int).all (okN T0)=true:=by kernel_rfl
theorem kok_2:([43,44,45]:List Int).all (okN T0)=true:=by kernel_rfl
theorem ksums:sumsR T0 fuel 0 g93 1 = .ret (g3,27):=by
  obtain ⟨n,hn⟩:∃ n,fuel=n+4:=⟨fuel - 4,by
    have:1000<=fuel:=by unfold fuel;decide
    omega⟩
  rw [hn]
  rw [sums_step (m:=n+3) (row':=1) (ys:=[12,13,14]) (c:=3) rfl k137_0 (by rw [fuel_lt (by decide)];rfl) rfl kok_0 (s0.bd (by decide) (by decide)) rfl (by decide) (by decide)]
  rw [show runG g93 T0 (fun _=>none) [12,13,14]=g1 from rfl]
  rw [sums_step (m:=n+2) (row':=2) (ys:=[25,26,27]) (c:=3) rfl k137_1 (by rw [fuel_lt (by decide)];rfl) rfl kok_1 (s1.bd (by decide) (by decide)) rfl (by decide) (by decide)]
  rw [show runG g1 T0 (fun _=>none) [25,26,27]=g2 from rfl]
  rw [sums_step (m:=n+1) (row':=3) (ys:=[43,44,45]) (c:=3) rfl k137_2 (by rw [fuel_lt (by decide)];rfl) rfl kok_2 (s2.bd (by decide) (by decide)) rfl (by decide) (by decide)]
  exact sums_end rfl
theorem k92:f92 (D0,(1,())) = .ret (T0,0,()):=by kernel_rfl
noncomputable def oA (k:Int):Int:=match g3 k with|some p=>IntKind.i64.wrap (p.1 - figN T0 k)|none=>0
noncomputable def oB (k:Int):Int:=match g3 k with|some p=>IntKind.i64.wrap (p.2 - figN T0 k)|none=>0
theorem kA_80:oA 80=0:=by kernel_rfl
theorem kB_80:oB 80=0:=by kernel_rfl
theorem k62_80:f62 (T0,(80,((8,8,()),()))) = .ret (0,0,()):=by kernel_rfl
theorem kA_81:oA 81=0:=by kernel_rfl
theorem kB_81:oB 81=0:=by kernel_rfl
theorem k62_81:f62 (T0,(81,((8,8,()),()))) = .ret (0,0,()):=by kernel_rfl
theorem kA_82:oA 82=0:=by kernel_rfl
theorem kB_82:oB 82=1:=by kernel_rfl
theorem k62_82:f62 (T0,(82,((8,9,()),()))) = .ret (0,1,()):=by kernel_rfl
theorem kA_83:oA 83=0:=by kernel_rfl
theorem kB_83:oB 83=1:=by kernel_rfl
theorem k62_83:f62 (T0,(83,((8,9,()),()))) = .ret (0,1,()):=by kernel_rfl
theorem kA_84:oA 84=0:=by kernel_rfl
theorem kB_84:oB 84=1:=by kernel_rfl
theorem k62_84:f62 (T0,(84,((8,9,()),()))) = .ret (0,1,()):=by kernel_rfl
theorem kA_85:oA 85 = -1:=by kernel_rfl
theorem kB_85:oB 85=0:=by kernel_rfl
theorem k62_85:f62 (T0,(85,((8,9,()),()))) = .ret (-1,0,()):=by kernel_rfl
theorem kA_86:oA 86=0:=by kernel_rfl
theorem kB_86:oB 86=0:=by kernel_rfl
theorem k62_86:f62 (T0,(86,((9,9,()),()))) = .ret (0,0,()):=by kernel_rfl
theorem g3_cases {k:Int} {p:Int×Int} (h:g3 k=some p):(k=80/\p=(8,8))\/(k=81/\p=(8,8))\/(k=82/\p=(8,9))\/(k=83/\p=(8,9))\/(k=84/\p=(8,9))\/(k=85/\p=(8,9))\/(k=86/\p=(9,9)):=by
  by_cases hj:k<80\/86<k
  . rw [s3 k hj] at h;cases h
  . have:k=80\/k=81\/k=82\/k=83\/k=84\/k=85\/k=86:=by omega
    rcases this with rfl|rfl|rfl|rfl|rfl|rfl|rfl
    . rw [g3_80] at h;cases h;simp
    . rw [g3_81] at h;cases h;simp
    . rw [g3_82] at h;cases h;simp
    . rw [g3_83] at h;cases h;simp
    . rw [g3_84] at h;cases h;simp
    . rw [g3_85] at h;cases h;simp
    . rw [g3_86] at h;cases h;simp
theorem k61:S61 (D0,1,Value.func (.func 62) #[] #[],()) R61:=by
  refine ⟨rfl,⟨T0,oA,oB,g3,27,k92,ksums,s3.bd (by decide) (by decide),by decide,fun k p hk=>?_,fun xs hg hl=>?_⟩,rfl⟩
  . rcases g3_cases hk with ⟨rfl,rfl⟩|⟨rfl,rfl⟩|⟨rfl,rfl⟩|⟨rfl,rfl⟩|⟨rfl,rfl⟩|⟨rfl,rfl⟩|⟨rfl,rfl⟩
    . rw [kA_80,kB_80];exact k62_80
    . rw [kA_81,kB_81];exact k62_81
    . rw [kA_82,kB_82];exact k62_82
    . rw [kA_83,kB_83];exact k62_83
    . rw [kA_84,kB_84];exact k62_84
    . rw [kA_85,kB_85];exact k62_85
    . rw [kA_86,kB_86];exact k62_86
  . refine ends_is (lo := -1) (hi:=1) ?_ ?_ (fun x hx=>?_) (by omega)
    . have:=(hg.all 85 _ g3_85 rfl).1
      rwa [kA_85] at this
    . have:=(hg.all 82 _ g3_82 rfl).2
      rwa [kB_82] at this
    . obtain ⟨k,p,hk,e⟩:=hg.of x hx
      rcases g3_cases hk with ⟨rfl,rfl⟩|⟨rfl,rfl⟩|⟨rfl,rfl⟩|⟨rfl,rfl⟩|⟨rfl,rfl⟩|⟨rfl,rfl⟩|⟨rfl,rfl⟩
      . rw [kA_80,kB_80] at e;omega
      . rw [kA_81,kB_81] at e;omega
      . rw [kA_82,kB_82] at e;omega
      . rw [kA_83,kB_83] at e;omega
      . rw [kA_84,kB_84] at e;omega
      . rw [kA_85,kB_85] at e;omega
      . rw [kA_86,kB_86] at e;omega
theorem k61f:f61 (D0,1,Value.func (.func 62) #[] #[],()) = .ret R61:=by
  unfold f61
  rw [if_pos k61]
end Go.V
namespace Go.V
open Go.Proofs
theorem k29:f29 (D0,(1,())) = .ret ((-1,1,()),(0,())):=by
  unfold f29 F29
  dsimp only
  rw [k61f]
  rfl
theorem f9_is (h27:f27v (A0,()) = .ret ([123,45,60,7],0,())) (h29:f29v (D0,(1,())) = .ret ((-1,1,()),(0,()))) (h31:f31 ([123,45,60,7],([123,45,60,7],())) = .ret true):f9 () = .ret true:=by
  unfold A0 at h27
  unfold D0 at h29
  unfold f9 F9
  rw [h27]
  dsimp only
  rw [h29]
  dsimp only
  rw [show ((0:Int)==0)=true from rfl]
  dsimp only
  rw [h31]
  rfl
theorem k9:f9 () = .ret true:=f9_is (by rw [f27v_eq];exact k27) (by rw [f29v_eq];exact k29) k31
theorem k9v:f9v () = .ret true:=by rw [f9v_eq];exact k9
end Go.V
namespace Go.V
open Go.Proofs
def inR (x lo hi:Int):Bool:=decide (lo<=x) && decide (x<=hi)
theorem inR_iff {x lo hi:Int}:inR x lo hi=true<->lo<=x/\x<=hi:=by unfold inR;simp
theorem in_any (x lo hi:Int):((match (decide (x >= lo)) with
  | true=>.ret (decide (x<=hi))
  | false=>.ret false):Out Bool) = .ret (inR x lo hi):=by
  unfold inR
  have e:decide (x >= lo)=decide (lo<=x):=rfl
  rw [e]
  cases decide (lo<=x)<;>rfl
theorem f70_val (x lo hi:Int):f70 (x,(lo,(hi,()))) = .ret (inR x lo hi):=by unfold f70 F70;exact in_any x lo hi
theorem f71_val (x:Int):f71 (x,()) = .ret (inR x 1 4):=by unfold f71 F71;exact in_any x 1 4
theorem getD_at {α:Type} {l:List α} {i:Nat} {d:α} (h:i<l.length):List.getD l (i:Int).toNat d=l[i]:=by
  rw [Int.toNat_natCast,List.getD_eq_getElem?_getD,List.getElem?_eq_getElem h];rfl
theorem inb_at {i n:Nat} (h:i<n):inb (i:Int) n=true:=by unfold inb;simp only [Bool.and_eq_true,decide_eq_true_eq];omega
theorem lt_len {α:Type} {l:List α} {i:Nat}:decide ((i:Int)<lenI l)=decide (i<l.length):=by unfold lenI;simp
theorem fuel_ge {n:Nat} (h:n<1000000):n<fuel+0:=by
  have:1000000<=fuel:=by unfold fuel;decide
  omega
end Go.V
namespace Go.V
open Go.Proofs
theorem tdiv_pos {a c:Int} (h:0<=a):a.tdiv c=a / c:=Int.tdiv_eq_ediv_of_nonneg h
end Go.V
namespace Go.V
open Go.Proofs
abbrev ENT:Type:=Int×Int×(Int×Int×Unit)×Int×Int×(Int×Int×Int×Int×Unit)×Unit
abbrev BK:Type:=Int×Int×Int×Int×Int×Int×List ENT×Unit
def ENT0:ENT:=(0,0,(0,0,()),0,0,(0,0,0,0,()),())
theorem f24_val (x lo hi:Int):f24 (x,(lo,(hi,()))) = .ret (inR x lo hi):=by unfold f24 F24;exact in_any x lo hi
theorem f46_val (x lo hi:Int):f46 (x,(lo,(hi,()))) = .ret (inR x lo hi):=by unfold f46 F46;exact in_any x lo hi
theorem f25_val (x:Int):f25 (x,()) = .ret (inR x 0 800):=by unfold f25 F25;dsimp only;rw [f24_val]
theorem f7_val (x:Int):f7 (x,()) = .ret (inR x 0 959999):=by unfold f7 F7;dsimp only;rw [f24_val]
theorem f33_val (x:Int):f33 (x,()) = .ret (inR x 0 959999):=by unfold f33 F33;dsimp only;rw [f46_val]
theorem f64_val (x:Int):f64 (x,()) = .ret (!inR x 0 800):=by unfold f64 F64;dsimp only;rw [f46_val]
theorem f8_val (p:BK) (h:Int):f8 (p,(h,())) = .ret (inR h 0 (IntKind.i64.wrap (p.1 - 1))):=by unfold f8 F8;dsimp only;rw [f24_val]
def moneyB (q:Int×Int×Int×Int×Unit):Bool:=inR q.1 0 999 && (inR q.2.1 0 19 && (inR q.2.2.1 0 11 && inR q.2.2.2.1 0 3))
theorem f55_val (q:Int×Int×Int×Int×Unit):f55 (q,()) = .ret (moneyB q):=by
  unfold f55 F55 moneyB
  dsimp only
  rw [f24_val]
  cases inR q.1 0 999 with
  | false=>rfl
  | true =>
  dsimp only
  rw [f24_val]
  cases inR q.2.1 0 19 with
  | false=>rfl
  | true =>
  dsimp only
  rw [f24_val]
  cases inR q.2.2.1 0 11 with
  | false=>rfl
  | true =>
  dsimp only
  rw [f24_val]
  rfl
theorem f96_val (q:Int×Int×Int×Int×Unit):f96 (q,()) = .ret (moneyB q):=by
  unfold f96 F96 moneyB
  dsimp only
  rw [f46_val]
  cases inR q.1 0 999 with
  | false=>rfl
  | true =>
  dsimp only
  rw [f46_val]
  cases inR q.2.1 0 19 with
  | false=>rfl
  | true =>
  dsimp only
  rw [f46_val]
  cases inR q.2.2.1 0 11 with
  | false=>rfl
  | true =>
  dsimp only
  rw [f46_val]
  rfl
def topB (a:Int):Int:=if IntKind.i64.wrap (a+3)<20 then IntKind.i64.wrap (a+3) else 20
structure LineOK (p:BK) (e:ENT):Prop where
  hand:inR e.1 0 (IntKind.i64.wrap (p.1 - 1))=true
  sheets:inR e.2.1 0 20=true
  lo:inR e.2.2.1.1 0 20=true
  hi:inR e.2.2.1.2.1 e.2.2.1.1 (topB e.2.2.1.1)=true
  m1:inR e.2.2.2.1 0 10=true
  m2:inR e.2.2.2.2.1 0 10=true
  money:moneyB e.2.2.2.2.2.1=true
theorem f26_val (p:BK) (e:ENT):∃ b,f26 (p,(e,())) = .ret b/\(b=true->LineOK p e):=by
  unfold f26 F26
  dsimp only
  rw [f8_val]
  cases h1:inR e.1 0 (IntKind.i64.wrap (p.1 - 1)) with
  | false=>exact ⟨false,rfl,fun h=>by cases h⟩
  | true =>
  dsimp only
  rw [f24_val]
  cases h2:inR e.2.1 0 20 with
  | false=>exact ⟨false,rfl,fun h=>by cases h⟩
  | true =>
  dsimp only
  rw [f24_val]
  cases h3:inR e.2.2.1.1 0 20 with
  | false=>exact ⟨false,rfl,fun h=>by cases h⟩
  | true =>
  dsimp only
  rw [f24_val]
  cases h4:inR e.2.2.1.2.1 e.2.2.1.1 (if IntKind.i64.wrap (e.2.2.1.1+3)<20 then IntKind.i64.wrap (e.2.2.1.1+3) else 20) with
  | false=>exact ⟨false,rfl,fun h=>by cases h⟩
  | true =>
  dsimp only
  rw [f24_val]
  cases h5:inR e.2.2.2.1 0 10 with
  | false=>exact ⟨false,rfl,fun h=>by cases h⟩
  | true =>
  dsimp only
  rw [f24_val]
  cases h6:inR e.2.2.2.2.1 0 10 with
  | false=>exact ⟨false,rfl,fun h=>by cases h⟩
  | true =>
  dsimp only
  rw [f55_val]
  exact ⟨_,rfl,fun h7=>⟨h1,h2,h3,h4,h5,h6,h7⟩⟩
theorem f68_true {p:BK} {e:ENT} (h:LineOK p e):f68 (p,(e,())) = .ret true:=by
  have h4:inR e.2.2.1.2.1 e.2.2.1.1 (if IntKind.i64.wrap (e.2.2.1.1+3)<20 then IntKind.i64.wrap (e.2.2.1.1+3) else 20)=true:=h.hi
  unfold f68 F68
  dsimp only
  rw [f46_val,h.lo]
  dsimp only
  rw [f46_val,h4]
  dsimp only
  rw [f46_val,h.hand]
  dsimp only
  rw [f46_val,h.sheets]
  dsimp only
  rw [f46_val,h.m1]
  dsimp only
  rw [f46_val,h.m2]
  dsimp only
  rw [f96_val,h.money]
structure BookOK (p:BK):Prop where
  n1:inR p.1 1 3=true
  n2:inR p.2.1 1 48=true
  r1:inR p.2.2.1 0 800=true
  r2:inR p.2.2.2.1 0 800=true
  r3:inR p.2.2.2.2.1 0 800=true
  r4:inR p.2.2.2.2.2.1 0 800=true
  len:inR (lenI p.2.2.2.2.2.2.1) 1 5=true
  line:∀ i,i<p.2.2.2.2.2.2.1.length->LineOK p (p.2.2.2.2.2.2.1.getD i ENT0)
theorem l6_val (N:Nat) (p:BK) (hl:p.2.2.2.2.2.2.1.length<1000000):∀ n (i:Nat),i<=p.2.2.2.2.2.2.1.length->p.2.2.2.2.2.2.1.length<n+i->∃ b,L6_0 N n (p,()) (i:Int) = .ret b/\(b=true->∀ j,i<=j->j<p.2.2.2.2.2.2.1.length->LineOK p (p.2.2.2.2.2.2.1.getD j ENT0)):=by
  intro n
  induction n with
  | zero=>intro i h1 h2;omega
  | succ n ih =>
    intro i h1 h2
    rw [L6_0_succ]
    dsimp only
    rw [lt_len]
    by_cases hi:i<p.2.2.2.2.2.2.1.length
    . rw [decide_eq_true hi,inb_at hi]
      simp only [cond_true,Int.toNat_natCast]
      obtain ⟨b,e1,e2⟩:=f26_val p (p.2.2.2.2.2.2.1.getD i ENT0)
      have e1:f26 (p,(List.getD p.2.2.2.2.2.2.1 i ((0:Int),((0:Int),(((0:Int),((0:Int),())),((0:Int),((0:Int),(((0:Int),((0:Int),((0:Int),((0:Int),())))),()))))))),()) = .ret b:=e1
      rw [e1]
      cases b with
      | false=>exact ⟨false,rfl,fun h=>by cases h⟩
      | true =>
        dsimp only [Bool.not_true]
        rw [wrap_small (by omega)]
        obtain ⟨b,f1,f2⟩:=ih (i+1) (by omega) (by omega)
        refine ⟨b,f1,fun hb j h3 h4=>?_⟩
        by_cases e:j=i
        . subst e;exact e2 rfl
        . exact f2 hb j (by omega) h4
    . rw [decide_eq_false hi]
      exact ⟨true,rfl,fun _ j h3 h4=>by omega⟩
theorem f6_val (p:BK) (hl:p.2.2.2.2.2.2.1.length<1000000):∃ b,f6 (p,()) = .ret b/\(b=true->BookOK p):=by
  unfold f6 F6
  dsimp only
  rw [f24_val]
  cases h1:inR p.1 1 3 with
  | false=>exact ⟨false,rfl,fun h=>by cases h⟩
  | true =>
  simp only [Bool.not_true]
  rw [f24_val]
  cases h2:inR p.2.1 1 48 with
  | false=>exact ⟨false,rfl,fun h=>by cases h⟩
  | true =>
  simp only [Bool.not_true]
  rw [f25_val]
  cases h3:inR p.2.2.1 0 800 with
  | false=>exact ⟨false,rfl,fun h=>by cases h⟩
  | true =>
  simp only [Bool.not_true]
  rw [f25_val]
  cases h4:inR p.2.2.2.1 0 800 with
  | false=>exact ⟨false,rfl,fun h=>by cases h⟩
  | true =>
  simp only [Bool.not_true]
  rw [f25_val]
  cases h5:inR p.2.2.2.2.1 0 800 with
  | false=>exact ⟨false,rfl,fun h=>by cases h⟩
  | true =>
  simp only [Bool.not_true]
  rw [f25_val]
  cases h6:inR p.2.2.2.2.2.1 0 800 with
  | false=>exact ⟨false,rfl,fun h=>by cases h⟩
  | true =>
  simp only [Bool.not_true]
  rw [f24_val]
  cases h7:inR (lenI p.2.2.2.2.2.2.1) 1 5 with
  | false=>exact ⟨false,rfl,fun h=>by cases h⟩
  | true =>
  simp only [Bool.not_true]
  obtain ⟨b,e1,e2⟩:=l6_val fuel p hl fuel 0 (by omega) (fuel_ge hl)
  exact ⟨b,e1,fun hb=>⟨h1,h2,h3,h4,h5,h6,h7,fun i hi=>e2 hb i (by omega) hi⟩⟩
end Go.V
namespace Go.V
open Go.Proofs
theorem l69_none {xs:List Int} (hl:xs.length<1000000) (h:∀ x∈xs,inR x 0 800=true):f69a (xs,((Value.func (.func 64) #[] #[]),())) = .ret (-1):=by
  have e0:f69a (xs,((Value.func (.func 64) #[] #[]),()))=F69a fuel (xs,((Value.func (.func 64) #[] #[]),())):=by
    unfold f69a
    exact e69a fuel (xs,((Value.func (.func 64) #[] #[]),()))
  rw [e0]
  unfold F69a
  have key:∀ n (i:Nat),i<=xs.length->xs.length<n+i->L69a_0 fuel n (xs,((Value.func (.func 64) #[] #[]),())) (i:Int) = .ret (-1):=by
    intro n
    induction n with
    | zero=>intro i h1 h2;omega
    | succ n ih =>
      intro i h1 h2
      rw [L69a_0_succ]
      dsimp only
      rw [lt_len]
      by_cases hi:i<xs.length
      . rw [decide_eq_true hi,inb_at hi,getD_at hi]
        simp only [cond_true]
        rw [f64_val,h _ (List.getElem_mem hi)]
        dsimp only [Bool.not_true]
        rw [wrap_small (by omega)]
        exact ih (i+1) (by omega) (by omega)
      . rw [decide_eq_false hi]
  exact key fuel 0 (by omega) (fuel_ge hl)
theorem f65_none {xs:List Int} (hl:xs.length<1000000) (h:∀ x∈xs,inR x 0 800=true):f65a (xs,((Value.func (.func 64) #[] #[]),())) = .ret false:=by
  have e0:f65a (xs,((Value.func (.func 64) #[] #[]),()))=F65a fuel (xs,((Value.func (.func 64) #[] #[]),())):=by
    unfold f65a
    exact e65a fuel (xs,((Value.func (.func 64) #[] #[]),()))
  rw [e0]
  unfold F65a
  dsimp only
  rw [l69_none hl h]
  rfl
theorem f95_none {p:BK} {es:List ENT} (hl:es.length<1000000) (h:∀ i,i<es.length->LineOK p (es.getD i ENT0)):f95a (es,(((),(p,())),())) = .ret (-1):=by
  unfold f95a F95a
  have key:∀ n (i:Nat),i<=es.length->es.length<n+i->L95a_0 fuel n (es,(((),(p,())),())) (i:Int) = .ret (-1):=by
    intro n
    induction n with
    | zero=>intro i h1 h2;omega
    | succ n ih =>
      intro i h1 h2
      rw [L95a_0_succ]
      dsimp only
      rw [lt_len]
      by_cases hi:i<es.length
      . rw [decide_eq_true hi,inb_at hi]
        simp only [cond_true,Int.toNat_natCast]
        have e0:(List.getD es i ((0:Int),((0:Int),(((0:Int),((0:Int),())),((0:Int),((0:Int),(((0:Int),((0:Int),((0:Int),((0:Int),())))),())))))))=es.getD i ENT0:=rfl
        rw [e0]
        have e:f67 (es.getD i ENT0,(p,())) = .ret false:=by
          unfold f67 F67
          dsimp only
          rw [f68_true (h i hi)]
          rfl
        rw [e]
        dsimp only
        rw [wrap_small (by omega)]
        exact ih (i+1) (by omega) (by omega)
      . rw [decide_eq_false hi]
  exact key fuel 0 (by omega) (fuel_ge hl)
theorem f32_true {p:BK} (h:BookOK p):f32 (p,()) = .ret true:=by
  have h7:=inR_iff.1 h.len
  have hl:p.2.2.2.2.2.2.1.length<=5:=by unfold lenI at h7;omega
  unfold f32 F32
  dsimp only
  rw [f46_val,h.n1]
  simp only [Bool.not_true]
  rw [f46_val,h.n2]
  simp only [Bool.not_true]
  rw [f46_val,h.len]
  simp only [Bool.not_true]
  rw [f65_none (by simp) (fun x hx=>by
    simp only [List.mem_cons,List.not_mem_nil,or_false] at hx
    rcases hx with rfl|rfl|rfl|rfl
    . exact h.r1
    . exact h.r2
    . exact h.r3
    . exact h.r4)]
  dsimp only
  unfold f66a F66a
  dsimp only
  rw [f95_none (p:=p) (by omega) h.line]
  rfl
def shTo (es:List ENT) (h:Int):Nat->Int
  | 0=>0
  | i+1=>shTo es h i+(if (es.getD i ENT0).1=h then (es.getD i ENT0).2.1 else 0)
theorem shTo_bd {es:List ENT} (hs:∀ i,i<es.length->inR (es.getD i ENT0).2.1 0 20=true) (h:Int):∀ i,i<=es.length->0<=shTo es h i/\shTo es h i<=20 * (i:Int):=by
  intro i
  induction i with
  | zero=>intro _;exact ⟨Int.le_refl _,by simp [shTo]⟩
  | succ i ih =>
    intro hi
    have h1:=ih (by omega)
    have h2:=inR_iff.1 (hs i (by omega))
    unfold shTo
    split<;>omega
theorem f11_val {p:BK} (hs:∀ i,i<p.2.2.2.2.2.2.1.length->inR (p.2.2.2.2.2.2.1.getD i ENT0).2.1 0 20=true) (hl:p.2.2.2.2.2.2.1.length<=5) (h:Int):f11 (p,(h,())) = .ret (shTo p.2.2.2.2.2.2.1 h p.2.2.2.2.2.2.1.length):=by
  obtain ⟨es,hes⟩:∃ es:List ENT,es=p.2.2.2.2.2.2.1:=⟨_,rfl⟩
  rw [<- hes] at hs hl ⊢
  unfold f11 F11
  have key:∀ n (i:Nat),i<=es.length->es.length<n+i->L11_0 fuel n (p,(h,())) (shTo es h i) (i:Int) = .ret (shTo es h es.length):=by
    intro n
    induction n with
    | zero=>intro i h1 h2;omega
    | succ n ih =>
      intro i h1 h2
      rw [L11_0_succ]
      dsimp only
      rw [<- hes,lt_len]
      by_cases hi:i<es.length
      . rw [decide_eq_true hi,inb_at hi]
        simp only [cond_true,Int.toNat_natCast]
        have hb:=shTo_bd hs h i (by omega)
        have h20:=inR_iff.1 (hs i hi)
        have e0:(List.getD es i ((0:Int),((0:Int),(((0:Int),((0:Int),())),((0:Int),((0:Int),(((0:Int),((0:Int),((0:Int),((0:Int),())))),())))))))=es.getD i ENT0:=rfl
        rw [e0]
        have next:=ih (i+1) (by omega) (by omega)
        have es1:shTo es h (i+1)=shTo es h i+(if (es.getD i ENT0).1=h then (es.getD i ENT0).2.1 else 0):=rfl
        rw [es1] at next
        by_cases he:(es.getD i ENT0).1=h
        . rw [if_pos he] at next
          rw [show ((es.getD i ENT0).1==h)=true by simpa using he]
          dsimp only
          rw [wr (by omega) (by omega),wrap_small (by omega)]
          exact next
        . rw [if_neg he,Int.add_zero] at next
          rw [show ((es.getD i ENT0).1==h)=false by simpa using he]
          dsimp only
          rw [wrap_small (by omega)]
          exact next
      . have:i=es.length:=by omega
        subst this
        rw [decide_eq_false hi]
  exact key fuel 0 (by omega) (fuel_ge (by omega))
def lsum:List Int->Int
  | []=>0
  | a :: r=>a+lsum r
theorem lsum_take {xs:List Int}:∀ {i:Nat} (h:i<xs.length),lsum (xs.take (i+1))=lsum (xs.take i)+xs[i]:=by
  induction xs with
  | nil=>intro i h;simp at h
  | cons a r ih =>
    intro i h
    cases i with
    | zero=>simp [lsum]
    | succ i =>
      have h:i<r.length:=by simpa using h
      have:=ih h
      rw [List.take_succ_cons,List.take_succ_cons]
      show a+lsum (r.take (i+1))=a+lsum (r.take i)+r[i]
      rw [this];omega
theorem lsum_bd {B:Int} (hB:0<=B):∀ (xs:List Int),(∀ x∈xs,0<=x/\x<=B)->0<=lsum xs/\lsum xs<=B * (xs.length:Int)
  | [],_=>by simp [lsum]
  | a :: r,h=>by
    have h1:=h a (by simp)
    have h2:=lsum_bd hB r fun x hx=>h x (List.mem_cons_of_mem _ hx)
    have e:B * ((a :: r).length:Int)=B * (r.length:Int)+B:=by
      rw [List.length_cons];rw [Int.natCast_succ,Int.mul_add,Int.mul_one]
    rw [e]
    show 0<=a+lsum r/\a+lsum r<=_
    omega
theorem f34_val {xs:List Int} (hl:xs.length<=10) (h:∀ x∈xs,0<=x/\x<=1000000000):f34 (xs,()) = .ret (lsum xs):=by
  unfold f34 F34
  have key:∀ n (i:Nat),i<=xs.length->xs.length<n+i->L34_0 fuel n (xs,()) (lsum (xs.take i)) (i:Int) = .ret (lsum xs):=by
    intro n
    induction n with
    | zero=>intro i h1 h2;omega
    | succ n ih =>
      intro i h1 h2
      rw [L34_0_succ]
      dsimp only
      rw [lt_len]
      by_cases hi:i<xs.length
      . rw [decide_eq_true hi,inb_at hi,getD_at hi]
        simp only [cond_true]
        have next:=ih (i+1) (by omega) (by omega)
        rw [lsum_take hi] at next
        have hb:=lsum_bd (B:=1000000000) (by omega) (xs.take i) fun x hx=>h x (List.mem_of_mem_take hx)
        have hb2:=h xs[i] (List.getElem_mem hi)
        rw [List.length_take] at hb
        have:(min i xs.length:Nat)<=10:=by omega
        rw [wr (by omega) (by omega),wrap_small (by omega)]
        exact next
      . have:i=xs.length:=by omega
        subst this
        rw [decide_eq_false hi,List.take_length]
  exact key fuel 0 (by omega) (fuel_ge (by omega))
end Go.V
namespace Go.V
open Go.Proofs
abbrev CLO36:Type:=Unit×Int×List Int×Int×Unit
theorem best35 (N:Nat) (xs:List Int) (c:CLO36) (R:Int->Int) (P:Int->Prop) (hf:∀ a b,P a->P b->f36 (a,(b,(c.2.1,(c.2.2.1,(c.2.2.2.1,()))))) = .ret (decide (R a > R b))) {ys:List Int} (hys:cut xs (1:Int) (lenI xs)=ys) (hP:∀ y∈ys,P y) (hl:ys.length<1000000):∀ (n:Nat) (out:Int) (i:Nat),P out->i<=ys.length->ys.length<n+i ->
    ∃ r,L35a_0 N n (xs,(c,())) out (i:Int) = .ret r/\R out<=R r/\(∀ (j:Nat) (h:j<ys.length),i<=j->R ys[j]<=R r)/\(r=out\/r∈ys):=by
  intro n
  induction n with
  | zero=>intro out i h0 h1 h2;omega
  | succ n ih =>
    intro out i h0 h1 h2
    rw [L35a_0_succ]
    dsimp only
    rw [hys]
    by_cases h:i<ys.length
    . rw [lt_len,decide_eq_true h,inb_at h,getD_at h]
      simp only [cond_true]
      rw [hf _ _ (hP _ (List.getElem_mem h)) h0,wrap_small (by omega)]
      by_cases hlt:R ys[i] > R out
      . rw [decide_eq_true hlt]
        obtain ⟨r,a1,a2,a3,a4⟩:=ih ys[i] (i+1) (hP _ (List.getElem_mem h)) (by omega) (by omega)
        refine ⟨r,a1,by omega,fun j hj hij=>?_,.inr ?_⟩
        . by_cases e:j=i
          . subst e;exact a2
          . exact a3 j hj (by omega)
        . rcases a4 with rfl|a4
          . exact List.getElem_mem h
          . exact a4
      . rw [decide_eq_false hlt]
        obtain ⟨r,a1,a2,a3,a4⟩:=ih out (i+1) h0 (by omega) (by omega)
        refine ⟨r,a1,a2,fun j hj hij=>?_,a4⟩
        by_cases e:j=i
        . subst e;omega
        . exact a3 j hj (by omega)
    . rw [lt_len,decide_eq_false h]
      exact ⟨out,rfl,Int.le_refl _,fun j hj hij=>by omega,.inl rfl⟩
theorem f35_val {xs:List Int} {c:CLO36} {R:Int->Int} {P:Int->Prop} (hf:∀ a b,P a->P b->f36 (a,(b,(c.2.1,(c.2.2.1,(c.2.2.2.1,()))))) = .ret (decide (R a > R b))) (hP:∀ y∈xs,P y) (hne:xs≠[]) (hl:xs.length<1000000):∃ r,f35a (xs,(c,())) = .ret r/\r∈xs/\∀ y∈xs,R y<=R r:=by
  unfold f35a F35a
  dsimp only
  obtain ⟨x0,xt,rfl⟩:∃ x0 xt,xs=x0 :: xt:=by
    cases xs with
    | nil=>exact absurd rfl hne
    | cons a b=>exact ⟨a,b,rfl⟩
  have hcut:cut (x0 :: xt) (1:Int) (lenI (x0 :: xt))=xt:=by
    unfold cut lenI
    rw [show (1:Int).toNat=1 from rfl,Int.toNat_natCast]
    show List.take _ xt=xt
    rw [List.take_of_length_le (by simp)]
  have hl:xt.length+1<1000000:=by simpa using hl
  have e1:inb (0:Int) (x0 :: xt).length=true:=by unfold inb;simp only [Bool.and_eq_true,decide_eq_true_eq,List.length_cons];omega
  have e2:cutOk (1:Int) (lenI (x0 :: xt)) (lenI (x0 :: xt))=true:=by unfold cutOk lenI;simp only [Bool.and_eq_true,decide_eq_true_eq,List.length_cons];omega
  rw [e1,e2]
  simp only [cond_true]
  have hfu:1000000<=fuel:=by unfold fuel;decide
  obtain ⟨r,a1,a2,a3,a4⟩:=best35 fuel (x0 :: xt) c R P hf hcut (fun y hy=>hP y (List.mem_cons_of_mem _ hy)) (by omega) fuel x0 0 (hP x0 List.mem_cons_self) (by omega) (by omega)
  have e3:List.getD (x0 :: xt) (0:Int).toNat (0:Int)=x0:=rfl
  rw [e3]
  refine ⟨r,a1,?_,fun y hy=>?_⟩
  . rcases a4 with rfl|a4
    . exact List.mem_cons_self
    . exact List.mem_cons_of_mem _ a4
  . rcases List.mem_cons.1 hy with rfl|hy
    . exact a2
    . obtain ⟨j,hj,rfl⟩:=List.mem_iff_getElem.1 hy
      exact a3 j hj (by omega)
theorem strike_sum (R:Int->Int) (j:Int):∀ (xs:List Int),xs.Nodup->j∈xs->lsum ((strike xs j).map R)+R j=lsum (xs.map R)
  | [],_,h=>by cases h
  | a :: r,hn,h=>by
    have hn':=List.nodup_cons.1 hn
    by_cases e:a=j
    . subst e
      have hr:strike r a=r:=by
        unfold strike
        rw [List.filter_eq_self]
        intro x hx
        have:x≠a:=fun e=>hn'.1 (e ▸ hx)
        simp [this]
      have:strike (a :: r) a=r:=by
        have h1:strike (a :: r) a=strike r a:=by unfold strike;rw [List.filter_cons];simp
        rw [h1,hr]
      rw [this]
      show lsum (r.map R)+R a=R a+lsum (r.map R)
      omega
    . have h1:strike (a :: r) j=a :: strike r j:=by unfold strike;rw [List.filter_cons];simp [e]
      have hj:j∈r:=by
        rcases List.mem_cons.1 h with h|h
        . exact absurd h.symm e
        . exact h
      have:=strike_sum R j r hn'.2 hj
      rw [h1]
      show R a+lsum ((strike r j).map R)+R j=R a+lsum (r.map R)
      omega
theorem strike_mem {xs:List Int} {j x:Int} (h:x∈strike xs j):x∈xs/\x≠j:=by
  unfold strike at h
  obtain ⟨h1,h2⟩:=List.mem_filter.1 h
  refine ⟨h1,fun e=>?_⟩
  subst e
  simp at h2
theorem lsum_pos {xs:List Int} {R:Int->Int} (h:0<lsum (xs.map R)):∃ x∈xs,0<R x:=by
  induction xs with
  | nil=>exact absurd h (by simp [lsum])
  | cons a r ih =>
    by_cases h1:0<R a
    . exact ⟨a,by simp,h1⟩
    . have h2:0<R a+lsum (r.map R):=h
      obtain ⟨x,hx,h3⟩:=ih (by omega)
      exact ⟨x,List.mem_cons_of_mem _ hx,h3⟩
theorem give_val {k0 tot:Int} {ps:List Int} {R q:Int->Int} {nn:Nat} (hn:nn<=10) (ht:0<tot) (hR:∀ i:Nat,i<nn->0<=R i/\R i<tot) (hq:∀ i:Nat,i<nn->0<=q i/\q i<=1000000000) (hf:∀ a b,(∃ i:Nat,i<nn/\a=(i:Int))->(∃ i:Nat,i<nn/\b=(i:Int))->f36 (a,(b,(k0,(ps,(tot,()))))) = .ret (decide (R a > R b))) {m:Nat} (hm:m<=10) :
    ∀ (n t:Nat) (zs xs:List Int),t<=m->m<n+t->zs.length=nn->xs.length<=10->xs.Nodup->(∀ h∈xs,∃ i:Nat,i<nn/\h=(i:Int))->((m:Int) - (t:Int)) * tot<=lsum (xs.map R)->(∀ i:Nat,i<nn->zs.getD i 0=q i\/((i:Int) ∉ xs/\zs.getD i 0=q i+1/\0<R i)) ->
      ∃ z,giveP k0 tot ps (m:Int) n (t:Int) zs xs = .ret z/\z.length=nn/\∀ i:Nat,i<nn->z.getD i 0=q i\/(z.getD i 0=q i+1/\0<R i):=by
  intro n
  induction n with
  | zero=>intro t zs xs h1 h2;omega
  | succ n ih =>
    intro t zs xs h1 h2 h3 h4 h5 h6 h7 h8
    unfold giveP
    by_cases hlt:t<m
    . rw [decide_eq_true (show (t:Int)<(m:Int) by omega)]
      dsimp only
      have hpos:0<lsum (xs.map R):=by
        have h9:1 * tot<=((m:Int) - (t:Int)) * tot:=Int.mul_le_mul_of_nonneg_right (by omega) (by omega)
        omega
      obtain ⟨x,hx,hx2⟩:=lsum_pos hpos
      have hne:xs≠[]:=fun e=>by rw [e] at hx;cases hx
      obtain ⟨j,e1,e2,e3⟩:=f35_val (c:=((),k0,ps,tot,())) (R:=R) hf h6 hne (by omega)
      rw [e1]
      dsimp only
      obtain ⟨i,hi,rfl⟩:=h6 j e2
      have hRi:0<R (i:Int):=by have:=e3 x hx;omega
      have hzi:zs.getD i 0=q i:=by
        rcases h8 i hi with h|h
        . exact h
        . exact absurd e2 h.1
      rw [inb_at (show i<zs.length by omega),Int.toNat_natCast,decide_eq_true (show i<zs.length by omega),decide_eq_true (show xs.length<1000000000 by omega),show xs.isEmpty=false by cases xs with|nil=>exact absurd rfl hne|cons a b=>rfl]
      simp only [Bool.and_self,Bool.not_false,cond_true]
      have hqi:=hq i hi
      rw [hzi,wr (x:=q (i:Int)+1) (by omega) (by omega),wrap_small (by omega)]
      have hstr:=strike_sum R (i:Int) xs h5 e2
      have hRi2:=(hR i hi).2
      refine ih (t+1) _ _ (by omega) (by omega) (by rw [List.length_set];exact h3) (by have:=strike_len xs (i:Int);omega) (by unfold strike;exact h5.filter _) (fun h hh=>h6 h (strike_mem hh).1) ?_ (fun i2 hi2=>?_)
      . have e4:((m:Int) - ((t+1:Nat):Int)) * tot=((m:Int) - (t:Int)) * tot - tot:=by
          rw [show ((m:Int) - ((t+1:Nat):Int))=((m:Int) - (t:Int)) - 1 by omega,Int.sub_mul,Int.one_mul]
        omega
      . by_cases e:i2=i
        . subst e
          refine .inr ⟨fun h=>(strike_mem h).2 rfl,?_,hRi⟩
          rw [List.getD_eq_getElem?_getD,List.getElem?_set_self (by omega)]
          rfl
        . rw [List.getD_eq_getElem?_getD,List.getElem?_set_ne (Ne.symm e),<- List.getD_eq_getElem?_getD]
          rcases h8 i2 hi2 with h|⟨h,h9,h10⟩
          . exact .inl h
          . exact .inr ⟨fun hh=>h (strike_mem hh).1,h9,h10⟩
    . rw [decide_eq_false (show ¬ (t:Int)<(m:Int) by omega)]
      refine ⟨zs,rfl,h3,fun i hi=>?_⟩
      rcases h8 i hi with h|⟨_,h⟩
      . exact .inl h
      . exact .inr h
end Go.V
namespace Go.V
open Go.Proofs
def idxL (nn:Nat) (f:Int->Int):List Int:=(List.range' 0 nn).map fun i:Nat=>f (i:Int)
theorem idxL_len (nn:Nat) (f:Int->Int):(idxL nn f).length=nn:=by unfold idxL;simp
theorem idxL_at {nn:Nat} {f:Int->Int} {i:Nat} (h:i<nn):(idxL nn f).getD i 0=f (i:Int):=by
  unfold idxL
  rw [List.getD_eq_getElem?_getD]
  simp [h]
theorem idxL_succ (nn:Nat) (f:Int->Int):idxL (nn+1) f=idxL nn f++[f (nn:Int)]:=by
  unfold idxL
  rw [List.range'_1_concat]
  simp
theorem lsum_app (xs:List Int) (a:Int):lsum (xs++[a])=lsum xs+a:=by
  induction xs with
  | nil=>simp [lsum]
  | cons b r ih=>show b+lsum (r++[a])=b+lsum r+a;rw [ih];omega
theorem idxL_of {nn:Nat} {f:Int->Int} {xs:List Int} (hl:xs.length=nn) (h:∀ i,i<nn->xs.getD i 0=f (i:Int)):xs=idxL nn f:=by
  apply List.ext_getElem
  . rw [idxL_len];exact hl
  . intro i h1 h2
    have:=h i (by omega)
    rw [List.getD_eq_getElem?_getD,List.getElem?_eq_getElem h1] at this
    have h3:=idxL_at (f:=f) (show i<nn by omega)
    rw [List.getD_eq_getElem?_getD,List.getElem?_eq_getElem h2] at h3
    exact (show xs[i]=f (i:Int) from this).trans (show (idxL nn f)[i]=f (i:Int) from h3).symm
theorem sum_parts (k0 tot:Int) (S q R:Int->Int):∀ nn:Nat,(∀ i:Nat,i<nn->k0 * S i=tot * q i+R i)->k0 * lsum (idxL nn S)=tot * lsum (idxL nn q)+lsum (idxL nn R):=by
  intro nn
  induction nn with
  | zero=>intro _;simp [idxL,lsum]
  | succ nn ih =>
    intro h
    have h1:=ih fun i hi=>h i (by omega)
    have h2:=h nn (by omega)
    rw [idxL_succ,idxL_succ,idxL_succ,lsum_app,lsum_app,lsum_app,Int.mul_add,Int.mul_add,h1,h2]
    omega
theorem sum_lt {tot:Int} (ht:0<tot) (R:Int->Int):∀ nn:Nat,(∀ i:Nat,i<nn->0<=R i/\R i<tot)->0<=lsum (idxL nn R)/\lsum (idxL nn R)<=(nn:Int) * tot:=by
  intro nn
  induction nn with
  | zero=>intro _;simp [idxL,lsum]
  | succ nn ih =>
    intro h
    have h1:=ih fun i hi=>h i (by omega)
    have h2:=h nn (by omega)
    rw [idxL_succ,lsum_app,show ((nn+1:Nat):Int) * tot=(nn:Int) * tot+tot by rw [Int.natCast_succ,Int.add_mul,Int.one_mul]]
    omega
theorem quot_val {k0 tot:Int} {ps:List Int} {nn:Nat} {S:Int->Int} (hn:nn<=10) (hps:ps=idxL nn S) (hk:0<=k0/\k0<=959999) (ht:0<tot) (hS:∀ i:Nat,i<nn->0<=S i/\S i<=1000) :
    ∀ (n i:Nat) (zs:List Int),i<=nn->nn<n+i->zs.length=nn->(∀ j,j<i->zs.getD j 0=(k0 * S j) / tot)->quotP k0 tot ps (nn:Int) n (i:Int) zs (idxL i id) = .ret (idxL nn (fun j=>(k0 * S j) / tot),idxL nn id):=by
  intro n
  induction n with
  | zero=>intro i zs h1 h2;omega
  | succ n ih =>
    intro i zs h1 h2 h3 h4
    unfold quotP
    by_cases h:i<nn
    . rw [decide_eq_true (show (i:Int)<(nn:Int) by omega)]
      dsimp only
      have hSi:=hS i h
      have hp1:0<=k0 * S i:=Int.mul_nonneg hk.1 hSi.1
      have hp2:k0 * S i<=959999 * 1000:=Int.mul_le_mul hk.2 hSi.2 hSi.1 (by decide)
      have hq0:0<=k0 * S i / tot:=Int.ediv_nonneg hp1 (by omega)
      have hq1:k0 * S i / tot<=k0 * S i:=Int.ediv_le_self _ hp1
      have hpl:ps.length=nn:=by rw [hps,idxL_len]
      have hg:List.getD ps (i:Int).toNat (0:Int)=S i:=by rw [Int.toNat_natCast,hps];exact idxL_at h
      rw [inb_at (show i<ps.length by omega),inb_at (show i<zs.length by omega),hg,Int.toNat_natCast,decide_eq_true (show i<zs.length by omega),idxL_len,decide_eq_true (show i<1000000000 by omega),show (tot != (0:Int))=true by simp;omega]
      simp only [Bool.and_self,cond_true]
      rw [wr (x:=k0 * S i) (by omega) (by omega),tdiv_pos hp1,wr (x:=k0 * S i / tot) (by omega) (by omega),wrap_small (by omega)]
      have e:idxL i id++[(i:Int)]=idxL (i+1) id:=(idxL_succ i id).symm
      rw [e]
      refine ih (i+1) _ (by omega) (by omega) (by rw [List.length_set];exact h3) fun j hj=>?_
      by_cases e2:j=i
      . subst e2
        rw [List.getD_eq_getElem?_getD,List.getElem?_set_self (by omega)]
        rfl
      . rw [List.getD_eq_getElem?_getD,List.getElem?_set_ne (Ne.symm e2),<- List.getD_eq_getElem?_getD]
        exact h4 j (by omega)
    . have hi:i=nn:=by omega
      subst hi
      rw [decide_eq_false (by omega)]
      dsimp only
      rw [idxL_of (f:=fun j=>(k0 * S j) / tot) h3 h4]
theorem f36_val {k0 tot:Int} {ps:List Int} {nn:Nat} {S:Int->Int} (hps:ps=idxL nn S) (hk:0<=k0/\k0<=959999) (ht:0<tot) (hS:∀ i:Nat,i<nn->0<=S i/\S i<=1000) (a b:Int) (ha:∃ i:Nat,i<nn/\a=(i:Int)) (hb:∃ i:Nat,i<nn/\b=(i:Int)):f36 (a,(b,(k0,(ps,(tot,()))))) = .ret (decide ((k0 * S a) % tot > (k0 * S b) % tot)):=by
  obtain ⟨i,hi,rfl⟩:=ha
  obtain ⟨j,hj,rfl⟩:=hb
  have hpl:ps.length=nn:=by rw [hps,idxL_len]
  have hgi:List.getD ps (i:Int).toNat (0:Int)=S i:=by rw [Int.toNat_natCast,hps];exact idxL_at hi
  have hgj:List.getD ps (j:Int).toNat (0:Int)=S j:=by rw [Int.toNat_natCast,hps];exact idxL_at hj
  have hSi:=hS i hi
  have hSj:=hS j hj
  have hp1:0<=k0 * S i:=Int.mul_nonneg hk.1 hSi.1
  have hp2:k0 * S i<=959999 * 1000:=Int.mul_le_mul hk.2 hSi.2 hSi.1 (by decide)
  have hr1:0<=k0 * S j:=Int.mul_nonneg hk.1 hSj.1
  have hr2:k0 * S j<=959999 * 1000:=Int.mul_le_mul hk.2 hSj.2 hSj.1 (by decide)
  unfold f36 F36
  dsimp only
  rw [inb_at (show i<ps.length by omega),inb_at (show j<ps.length by omega),show (tot != (0:Int))=true by simp;omega,hgi,hgj]
  simp only [cond_true]
  rw [wr (x:=k0 * S i) (by omega) (by omega),wr (x:=k0 * S j) (by omega) (by omega),Int.tmod_eq_emod_of_nonneg hp1,Int.tmod_eq_emod_of_nonneg hr1]
theorem idx_nodup (nn:Nat):(idxL nn id).Nodup:=by
  unfold idxL
  refine List.Pairwise.map _ (fun a b h=>?_) (List.nodup_range' (step:=1))
  exact fun e=>h (Int.ofNat.inj e)
theorem share_val {k0 tot:Int} {nn:Nat} {S:Int->Int} (hn1:1<=nn) (hn:nn<=10) (hk:0<=k0/\k0<=959999) (htS:tot=lsum (idxL nn S)) (ht:0<tot) (hS:∀ i:Nat,i<nn->0<=S i/\S i<=1000) {zs:List Int} (hz:zs.length=nn) :
    ∃ z,shareP (nn:Int) k0 tot (idxL nn S) zs = .ret z/\z.length=nn/\∀ i:Nat,i<nn->z.getD i 0=k0 * S i / tot\/(z.getD i 0=k0 * S i / tot+1/\0<(k0 * S i) % tot):=by
  have hq:∀ i:Nat,i<nn->0<=k0 * S i / tot/\k0 * S i / tot<=959999000:=fun i hi=>by
    have hSi:=hS i hi
    have hp1:0<=k0 * S i:=Int.mul_nonneg hk.1 hSi.1
    have hp2:k0 * S i<=959999 * 1000:=Int.mul_le_mul hk.2 hSi.2 hSi.1 (by decide)
    have hq0:0<=k0 * S i / tot:=Int.ediv_nonneg hp1 (by omega)
    have hq1:k0 * S i / tot<=k0 * S i:=Int.ediv_le_self _ hp1
    omega
  have hR:∀ i:Nat,i<nn->0<=(k0 * S i) % tot/\(k0 * S i) % tot<tot:=fun i hi=>⟨Int.emod_nonneg _ (by omega),Int.emod_lt_of_pos _ ht⟩
  have hfu:1000000<=fuel:=by unfold fuel;decide
  unfold shareP
  have hq1:=quot_val hn rfl hk ht hS fuel 0 zs (by omega) (by omega) hz (fun j hj=>by omega)
  have e0:idxL 0 id=[]:=rfl
  rw [e0] at hq1
  rw [show ((0:Nat):Int)=0 from rfl] at hq1
  rw [hq1]
  dsimp only
  have hmem:∀ x∈idxL nn (fun j=>k0 * S j / tot),0<=x/\x<=1000000000:=fun x hx=>by
    unfold idxL at hx
    obtain ⟨i,hi,rfl⟩:=List.mem_map.1 hx
    have hi:i<nn:=by simp [List.mem_range'] at hi;omega
    have:=hq i hi
    show 0<=k0 * S i / tot/\k0 * S i / tot<=1000000000
    omega
  rw [f34_val (by rw [idxL_len];exact hn) hmem]
  dsimp only
  have hsum:=sum_parts k0 tot S (fun j=>k0 * S j / tot) (fun j=>(k0 * S j) % tot) nn fun i hi=>(Int.mul_ediv_add_emod _ _).symm
  rw [<- htS] at hsum
  have hRs:=sum_lt ht (fun j=>(k0 * S j) % tot) nn hR
  obtain ⟨mi,hmi⟩:∃ mi,mi=k0 - lsum (idxL nn fun j=>k0 * S j / tot):=⟨_,rfl⟩
  have hm1:mi * tot=lsum (idxL nn fun j=>(k0 * S j) % tot):=by
    rw [hmi,Int.sub_mul,hsum,Int.mul_comm (lsum _) tot]
    omega
  have hm0:0<=mi:=by
    by_cases h:0<=mi
    . exact h
    . have:=Int.mul_le_mul_of_nonneg_right (show mi <= -1 by omega) (show 0<=tot by omega)
      omega
  have hm2:mi<=nn:=by
    by_cases h:mi<=nn
    . exact h
    . have:=Int.mul_le_mul_of_nonneg_right (show (nn:Int)+1<=mi by omega) (show 0<=tot by omega)
      rw [Int.add_mul,Int.one_mul] at this
      omega
  rw [<- hmi,wr (by omega) (by omega)]
  obtain ⟨m,rfl⟩:∃ m:Nat,mi=(m:Int):=⟨mi.toNat,by omega⟩
  have hx:(idxL nn id).map (fun j=>(k0 * S j) % tot)=idxL nn fun j=>(k0 * S j) % tot:=by
    unfold idxL
    rw [List.map_map]
    rfl
  obtain ⟨z,g1,g2,g3⟩:=give_val (k0:=k0) (tot:=tot) (ps:=idxL nn S) (R:=fun j=>(k0 * S j) % tot) (q:=fun j=>k0 * S j / tot) (nn:=nn) hn ht hR (fun i hi=>by have:=hq i hi;omega) (f36_val rfl hk ht hS) (m:=m) (by omega) fuel 0 _ (idxL nn id) (by omega) (by omega) (idxL_len nn _) (by rw [idxL_len];exact hn) (idx_nodup nn) (fun h hh=>by
    unfold idxL at hh
    obtain ⟨i,hi,rfl⟩:=List.mem_map.1 hh
    exact ⟨i,by simp [List.mem_range'] at hi;omega,rfl⟩) (by rw [hx,<- hm1];simp) (fun i hi=>.inl (idxL_at (f:=fun j=>k0 * S j / tot) hi))
  exact ⟨z,g1,g2,g3⟩
end Go.V
namespace Go.V
open Go.Proofs
def SH (p:BK) (h:Int):Int:=shTo p.2.2.2.2.2.2.1 h p.2.2.2.2.2.2.1.length
theorem zeros_idx {es:List ENT} (nn:Nat):(zeros (.int .i64) (nn:Int):List Int)=idxL nn fun h=>shTo es h 0:=by
  refine idxL_of (nn:=nn) (f:=fun h=>shTo es h 0) ?_ fun i hi=>?_
  . show (List.replicate (nn:Int).toNat (0:Int)).length=nn
    simp
  . show (List.replicate (nn:Int).toNat (0:Int)).getD i 0=0
    rw [List.getD_eq_getElem?_getD]
    simp [hi]
section
variable {p : BK} {k0 : Int} {nn : Nat}
theorem l10_val (hB:BookOK p) (hp:p.1=(nn:Int)) (hn:nn<=3):∀ (n i:Nat),i<=p.2.2.2.2.2.2.1.length->p.2.2.2.2.2.2.1.length<n+i ->
    L10_0 fuel n (p,(k0,())) p.1 p.2.1 p.2.2.1 p.2.2.2.1 p.2.2.2.2.1 p.2.2.2.2.2.1 p.2.2.2.2.2.2.1 k0 (idxL nn fun h=>shTo p.2.2.2.2.2.2.1 h i) (i:Int)=L10_0 fuel 1 (p,(k0,())) p.1 p.2.1 p.2.2.1 p.2.2.2.1 p.2.2.2.2.1 p.2.2.2.2.2.1 p.2.2.2.2.2.2.1 k0 (idxL nn (SH p)) (p.2.2.2.2.2.2.1.length:Int):=by
  obtain ⟨es,hes⟩:∃ es:List ENT,es=p.2.2.2.2.2.2.1:=⟨_,rfl⟩
  have hSH:SH p=fun h=>shTo es h es.length:=by rw [hes];rfl
  have hline:=hB.line
  have hlen:=inR_iff.1 hB.len
  rw [hSH]
  rw [<- hes] at hline hlen ⊢
  have hl5:es.length<=5:=by unfold lenI at hlen;omega
  intro n
  induction n with
  | zero=>intro i h1 h2;omega
  | succ n ih =>
    intro i h1 h2
    by_cases hi:i<es.length
    . rw [L10_0_succ]
      dsimp only
      rw [<- hes,lt_len,decide_eq_true hi,inb_at hi]
      have hE:List.getD es (i:Int).toNat ((0:Int),((0:Int),(((0:Int),((0:Int),())),((0:Int),((0:Int),(((0:Int),((0:Int),((0:Int),((0:Int),())))),()))))))=es.getD i ENT0:=by rw [Int.toNat_natCast];rfl
      generalize List.getD es (i:Int).toNat ((0:Int),((0:Int),(((0:Int),((0:Int),())),((0:Int),((0:Int),(((0:Int),((0:Int),((0:Int),((0:Int),())))),()))))))=E at hE ⊢
      have hL:=hline i hi
      have hh:=inR_iff.1 hL.hand
      have hs:=inR_iff.1 hL.sheets
      have hstep:∀ j:Int,shTo es j (i+1)=shTo es j i+(if E.1=j then E.2.1 else 0):=fun j=>by rw [hE];rfl
      rw [hp,wr (by omega) (by omega)] at hh
      rw [<- hE] at hh hs
      obtain ⟨ec,es2,erest⟩:=E
      obtain ⟨g,rfl⟩:∃ g:Nat,ec=(g:Int):=⟨ec.toNat,by have h0:0<=ec:=hh.1;omega⟩
      have hgn:g<nn:=by have h0:(g:Int)<=(nn:Int) - 1:=hh.2;omega
      have hs:0<=es2/\es2<=20:=hs
      dsimp only
      simp only [cond_true]
      rw [inb_at (show g<(idxL nn fun h=>shTo es h i).length by rw [idxL_len];exact hgn),Int.toNat_natCast,decide_eq_true (show g<(idxL nn fun h=>shTo es h i).length by rw [idxL_len];exact hgn)]
      simp only [cond_true]
      rw [idxL_at (f:=fun h=>shTo es h i) hgn]
      have hb:=shTo_bd (es:=es) (fun j hj=>(hline j hj).sheets) (g:Int) i (by omega)
      rw [wr (x:=shTo es (g:Int) i+es2) (by omega) (by omega),wrap_small (by omega)]
      have e1:(idxL nn fun h=>shTo es h i).set g (shTo es (g:Int) i+es2)=idxL nn fun h=>shTo es h (i+1):=by
        refine idxL_of (f:=fun h=>shTo es h (i+1)) (by rw [List.length_set,idxL_len]) fun j hj=>?_
        show _=shTo es (j:Int) (i+1)
        rw [hstep]
        show _=shTo es (j:Int) i+(if (g:Int)=(j:Int) then es2 else 0)
        by_cases e:j=g
        . subst e
          rw [List.getD_eq_getElem?_getD,List.getElem?_set_self (by rw [idxL_len];exact hj),if_pos rfl]
          rfl
        . rw [List.getD_eq_getElem?_getD,List.getElem?_set_ne (Ne.symm e),<- List.getD_eq_getElem?_getD,idxL_at (f:=fun h=>shTo es h i) hj,if_neg (by omega)]
          omega
      rw [e1]
      exact ih (i+1) (by omega) (by omega)
    . have:i=es.length:=by omega
      subst this
      rw [L10_0_succ,L10_0_succ]
      dsimp only
      rw [<- hes,lt_len,decide_eq_false hi]
theorem SH_bd (hB:BookOK p) (h:Int):0<=SH p h/\SH p h<=100:=by
  have hlen:=inR_iff.1 hB.len
  have:=shTo_bd (es:=p.2.2.2.2.2.2.1) (fun j hj=>(hB.line j hj).sheets) h _ (Nat.le_refl _)
  unfold lenI at hlen
  unfold SH
  omega
theorem tot_bd (hB:BookOK p) (hn:nn<=3):0<=lsum (idxL nn (SH p))/\lsum (idxL nn (SH p))<=1000:=by
  have:=lsum_bd (B:=100) (by omega) (idxL nn (SH p)) fun x hx=>by
    unfold idxL at hx
    obtain ⟨i,hi,rfl⟩:=List.mem_map.1 hx
    exact SH_bd hB _
  rw [idxL_len] at this
  omega
theorem f10_val (hB:BookOK p) (hp:p.1=(nn:Int)) (hn1:1<=nn) (hn:nn<=3) (hk:inR k0 0 959999=true) :
    (lsum (idxL nn (SH p))=0->f10 (p,(k0,())) = .ret ([],(5,())))/\(0<lsum (idxL nn (SH p))->∃ z,f10 (p,(k0,())) = .ret (z,(0,()))/\z.length=nn/\∀ i:Nat,i<nn->z.getD i 0=k0 * SH p i / lsum (idxL nn (SH p))\/(z.getD i 0=k0 * SH p i / lsum (idxL nn (SH p))+1/\0<(k0 * SH p i) % lsum (idxL nn (SH p)))):=by
  have hlen:=inR_iff.1 hB.len
  have hl5:p.2.2.2.2.2.2.1.length<=5:=by unfold lenI at hlen;omega
  have hmm:mayMake p.1=true:=by rw [hp];unfold mayMake;simp only [Bool.and_eq_true,decide_eq_true_eq];omega
  have e0:F10 fuel (p,(k0,()))=L10_0 fuel 1 (p,(k0,())) p.1 p.2.1 p.2.2.1 p.2.2.2.1 p.2.2.2.2.1 p.2.2.2.2.2.1 p.2.2.2.2.2.2.1 k0 (idxL nn (SH p)) (p.2.2.2.2.2.2.1.length:Int):=by
    unfold F10
    dsimp only
    rw [f32_true hB]
    simp only [Bool.not_true]
    rw [f33_val,hk]
    simp only [Bool.not_true]
    rw [hmm]
    simp only [cond_true]
    have hz:(zeros (.int .i64) p.1:List Int)=idxL nn fun h=>shTo p.2.2.2.2.2.2.1 h 0:=by rw [hp];exact zeros_idx nn
    rw [hz]
    exact l10_val hB hp hn fuel 0 (by omega) (fuel_ge (by omega))
  have hmem:∀ x∈idxL nn (SH p),0<=x/\x<=1000000000:=fun x hx=>by
    unfold idxL at hx
    obtain ⟨i,hi,rfl⟩:=List.mem_map.1 hx
    have:=SH_bd hB (i:Int)
    omega
  have h34:=f34_val (xs:=idxL nn (SH p)) (by rw [idxL_len];omega) hmem
  have e1:∀ r,L10_0 fuel 1 (p,(k0,())) p.1 p.2.1 p.2.2.1 p.2.2.2.1 p.2.2.2.2.1 p.2.2.2.2.2.1 p.2.2.2.2.2.2.1 k0 (idxL nn (SH p)) (p.2.2.2.2.2.2.1.length:Int) = .ret ((),r)->f10 (p,(k0,())) = .ret r:=fun r hr=>by
    unfold f10
    rw [e0,hr]
    rfl
  refine ⟨fun ht=>e1 _ ?_,fun ht=>?_⟩
  . rw [L10_0_succ]
    dsimp only
    rw [lt_len,decide_eq_false (by omega)]
    dsimp only
    rw [h34,ht]
    rfl
  . obtain ⟨z,g1,g2,g3⟩:=share_val (k0:=k0) (tot:=lsum (idxL nn (SH p))) (nn:=nn) (S:=SH p) hn1 (by omega) (inR_iff.1 hk) rfl ht (fun i hi=>by have:=SH_bd hB (i:Int);omega) (zs:=zeros (.int .i64) p.1) (by rw [hp,zeros_idx (es:=[]) nn,idxL_len])
    refine ⟨z,e1 _ ?_,g2,g3⟩
    rw [L10_0_succ]
    dsimp only
    rw [lt_len,decide_eq_false (by omega)]
    dsimp only
    rw [h34]
    dsimp only
    rw [show (lsum (idxL nn (SH p))==(0:Int))=false by simp;omega]
    dsimp only
    rw [hmm]
    simp only [cond_true]
    have g1:shareX (p.1,(k0,(lsum (idxL nn (SH p)),(idxL nn (SH p),((zeros (.int .i64) p.1:List Int),()))))) = .ret z:=by
      unfold shareX
      rw [hp] at g1 ⊢
      exact g1
    rw [g1]
end
theorem f97_pos {u v:Int} (hu:0<u) (h1:0<=v) (h2:v<=1000000000):f97 ((u,()),(v,())) = .ret (v / u):=by
  have hq0:0<=v / u:=Int.ediv_nonneg h1 (by omega)
  have hq1:v / u<=v:=Int.ediv_le_self _ h1
  have hm:v / u * u<=v:=Int.ediv_mul_le _ (by omega)
  have hm0:0<=v / u * u:=Int.mul_nonneg hq0 (by omega)
  unfold f97 F97
  dsimp only
  rw [show (u != (0:Int))=true by simp;omega]
  simp only [cond_true]
  rw [tdiv_pos h1,wr (x:=v / u) (by omega) (by omega),wr (x:=v / u * u) (by omega) (by omega),decide_eq_false (by omega)]
theorem f98_pos {u v:Int} (hu:0<u) (h1:0<=v) (h2:v<=1000000000):f98 ((u,()),(v,())) = .ret (v / u+if 0<v % u then 1 else 0):=by
  have hq0:0<=v / u:=Int.ediv_nonneg h1 (by omega)
  have hq1:v / u<=v:=Int.ediv_le_self _ h1
  have hm:v / u * u<=v:=Int.ediv_mul_le _ (by omega)
  have hm0:0<=v / u * u:=Int.mul_nonneg hq0 (by omega)
  have hdm:v / u * u+v % u=v:=by rw [Int.mul_comm];exact Int.mul_ediv_add_emod v u
  have hr0:0<=v % u:=Int.emod_nonneg _ (by omega)
  have e1:(0 - v).tdiv u = -(v / u):=by
    have:=Int.neg_tdiv (a:=v) (b:=u)
    rw [show 0 - v = -v by omega,this,tdiv_pos h1]
  have e2 : -(v / u) * u = -(v / u * u):=Int.neg_mul _ _
  unfold f98 F98 f97 F97
  dsimp only
  rw [show (u != (0:Int))=true by simp;omega]
  simp only [cond_true]
  rw [wr (x:=0 - v) (by omega) (by omega),e1,wr (x := -(v / u)) (by omega) (by omega),e2,wr (x := -(v / u * u)) (by omega) (by omega)]
  by_cases h:0<v % u
  . rw [decide_eq_true (by omega),if_pos h]
    dsimp only
    rw [wr (x := -(v / u) - 1) (by omega) (by omega),wr (by omega) (by omega)]
    congr 1
    omega
  . rw [decide_eq_false (by omega),if_neg h]
    dsimp only
    rw [wr (by omega) (by omega)]
    congr 1
    omega
theorem f12_of {u v r rule:Int} (hr1:0<=r) (hr2:r<=1000000000) (h:f39 (v,(u,(rule,()))) = .ret (r,(0,()))):f12 (v,(u,(rule,()))) = .ret (r,(true,())):=by
  unfold f12 F12
  dsimp only
  rw [h]
  dsimp only
  rw [show ((0:Int)==0)=true from rfl]
  dsimp only
  rw [decide_eq_true (show r >= -1099511627776 by omega)]
  dsimp only
  rw [decide_eq_true (show r<=1099511627776 by omega)]
theorem f12_down {u v:Int} (hu:0<u) (hu2:u<=1000) (h1:0<=v) (h2:v<=1000000000):f12 (v,(u,((1:Int),()))) = .ret (v / u,(true,())):=by
  have hq0:0<=v / u:=Int.ediv_nonneg h1 (by omega)
  have hq1:v / u<=v:=Int.ediv_le_self _ h1
  refine f12_of hq0 (by omega) ?_
  unfold f39 F39
  dsimp only
  rw [f70_val,inR_iff.2 (show -1099511627776<=v/\v<=1099511627776 by omega)]
  simp only [Bool.not_true]
  rw [f70_val,inR_iff.2 (show 1<=u/\u<=1048576 by omega)]
  simp only [Bool.not_true]
  rw [f71_val,show inR 1 1 4=true by decide]
  simp only [Bool.not_true]
  rw [show ((1:Int)==0)=false from rfl,show ((1:Int)==1)=true from rfl]
  simp only [cond_true,cond_false]
  rw [f97_pos hu h1 h2]
theorem f12_up {u v:Int} (hu:0<u) (hu2:u<=1000) (h1:0<=v) (h2:v<=99999999):f12 (v,(u,((2:Int),()))) = .ret (v / u+(if 0<v % u then 1 else 0),(true,())):=by
  have hq0:0<=v / u:=Int.ediv_nonneg h1 (by omega)
  have hq1:v / u<=v:=Int.ediv_le_self _ h1
  refine f12_of (by split<;>omega) (by split<;>omega) ?_
  unfold f39 F39
  dsimp only
  rw [f70_val,inR_iff.2 (show -1099511627776<=v/\v<=1099511627776 by omega)]
  simp only [Bool.not_true]
  rw [f70_val,inR_iff.2 (show 1<=u/\u<=1048576 by omega)]
  simp only [Bool.not_true]
  rw [f71_val,show inR 2 1 4=true by decide]
  simp only [Bool.not_true]
  rw [show ((2:Int)==0)=false from rfl,show ((2:Int)==1)=false from rfl,show ((2:Int)==2)=true from rfl]
  simp only [cond_true,cond_false]
  rw [f98_pos hu h1 (by omega)]
theorem f3_true (x:BK×Int×Int×Unit):f3 x = .ret true:=by
  obtain ⟨p,k0,h,u⟩:=x
  unfold f3 F3
  dsimp only
  by_cases h1:lenI p.2.2.2.2.2.2.1 > 7
  . rw [decide_eq_true h1];dsimp only;rw [k9v]
  rw [decide_eq_false h1]
  dsimp only
  obtain ⟨b,e6,hb⟩:=f6_val p (by unfold lenI at h1;omega)
  rw [e6]
  cases b with
  | false=>simp only [Bool.not_false];rw [k9v]
  | true =>
  simp only [Bool.not_true]
  have hB:=hb rfl
  rw [f7_val]
  cases hk:inR k0 0 959999 with
  | false=>simp only [Bool.not_false];rw [k9v]
  | true =>
  simp only [Bool.not_true]
  have hn:=inR_iff.1 hB.n1
  obtain ⟨nn,hp⟩:∃ nn:Nat,p.1=(nn:Int):=⟨p.1.toNat,by omega⟩
  rw [f8_val,hp,wr (by omega) (by omega)]
  cases hh:inR h 0 ((nn:Int) - 1) with
  | false=>simp only [Bool.not_false];rw [k9v]
  | true =>
  simp only [Bool.not_true]
  have hh:=inR_iff.1 hh
  obtain ⟨g,rfl⟩:∃ g:Nat,h=(g:Int):=⟨h.toNat,by omega⟩
  have hlen:=inR_iff.1 hB.len
  have hl5:p.2.2.2.2.2.2.1.length<=5:=by unfold lenI at hlen;omega
  have h11:∀ j:Int,f11 (p,(j,())) = .ret (SH p j):=fun j=>f11_val (fun i hi=>(hB.line i hi).sheets) hl5 j
  have hfv:=f10_val (p:=p) (k0:=k0) (nn:=nn) hB hp (by omega) (by omega) hk
  have htb:=tot_bd (p:=p) (nn:=nn) hB (by omega)
  have key:∀ (r:List Int×Int×Unit) (n i:Nat),i<=nn->nn<n+i->L3_0 fuel n (p,(k0,((g:Int),()))) r (lsum (idxL i (SH p))) (i:Int)=L3_0 fuel 1 (p,(k0,((g:Int),()))) r (lsum (idxL nn (SH p))) (nn:Int):=by
    intro r n
    induction n with
    | zero=>intro i h1 h2;omega
    | succ n ih =>
      intro i h1 h2
      by_cases hi:i<nn
      . rw [L3_0_succ]
        dsimp only
        rw [hp,decide_eq_true (by omega)]
        dsimp only
        rw [h11]
        dsimp only
        have hb1:=tot_bd (p:=p) (nn:=i) hB (by omega)
        have hb2:=SH_bd hB (i:Int)
        rw [wr (by omega) (by omega),wrap_small (by omega)]
        have:=ih (i+1) (by omega) (by omega)
        rw [idxL_succ,lsum_app] at this
        exact this
      . have:i=nn:=by omega
        subst this
        rw [L3_0_succ,L3_0_succ]
        dsimp only
        rw [hp,decide_eq_false (by omega)]
  have hkk:=inR_iff.1 hk
  have hS:=SH_bd hB (g:Int)
  have hv1:0<=k0 * SH p g:=Int.mul_nonneg hkk.1 hS.1
  have hv2:k0 * SH p g<=959999 * 100:=Int.mul_le_mul hkk.2 hS.2 hS.1 (by decide)
  have hfu:1000000<=fuel:=by unfold fuel;decide
  by_cases ht:lsum (idxL nn (SH p))=0
  . rw [hfv.1 ht]
    dsimp only
    have e:=key ([],(5,())) fuel 0 (by omega) (by omega)
    refine Eq.trans e ?_
    rw [L3_0_succ]
    dsimp only
    rw [hp,decide_eq_false (by omega),ht]
    dsimp only
    rw [show ((0:Int)==0)=true from rfl,show ((5:Int)==5)=true from rfl]
    dsimp only
    rw [k9v]
  . have htp:0<lsum (idxL nn (SH p)):=by omega
    obtain ⟨z,ez,hzl,hz⟩:=hfv.2 htp
    rw [ez]
    dsimp only
    have e:=key (z,(0,())) fuel 0 (by omega) (by omega)
    refine Eq.trans e ?_
    have hgn:g<nn:=by omega
    rw [L3_0_succ]
    dsimp only
    rw [hp,decide_eq_false (by omega),show (lsum (idxL nn (SH p))==(0:Int))=false by simpa using ht]
    dsimp only
    rw [h11]
    dsimp only
    rw [wr (x:=k0 * SH p g) (by omega) (by omega),f12_down htp htb.2 hv1 (by omega)]
    dsimp only
    rw [f12_up htp htb.2 hv1 (by omega)]
    dsimp only
    rw [show ((0:Int)==0)=true from rfl,show (lenI z==(nn:Int))=true by unfold lenI;simp [hzl]]
    dsimp only
    rw [show inb (g:Int) z.length=true from inb_at (by omega),Int.toNat_natCast]
    simp only [cond_true]
    rcases hz g hgn with h9|⟨h9,h10⟩
    . rw [h9,show (k0 * SH p g / lsum (idxL nn (SH p))==k0 * SH p g / lsum (idxL nn (SH p)))=true by simp]
      dsimp only
      rw [k9v]
    . rw [h9,if_pos h10,show (k0 * SH p g / lsum (idxL nn (SH p))+1==k0 * SH p g / lsum (idxL nn (SH p)))=false by simp;omega]
      dsimp only
      rw [show (k0 * SH p g / lsum (idxL nn (SH p))+1==k0 * SH p g / lsum (idxL nn (SH p))+1)=true by simp]
      dsimp only
      rw [k9v]
end Go.V
namespace Go.V
open Go.Proofs Go.Proofs.YtkohflnifdpahaaGreat
open Go.ChangeShapes Go.WideShapes Go.ChangeAt Go.RowKit
theorem fitMoney:(Fit Tryz.prog (.prod (.int .i64) (.prod (.int .i64) (.prod (.int .i64) (.prod (.int .i64) .unit))))).1 53:=⟨_,Tryz.underlying53,by kernel_rfl,_,_,rfl,rfl,by kernel_rfl,fitI,_,_,rfl,rfl,by kernel_rfl,fitI,_,_,rfl,rfl,by kernel_rfl,fitI,_,_,rfl,rfl,by kernel_rfl,fitI,rfl⟩
theorem fitEnt:(Fit Tryz.prog (.prod (.int .i64) (.prod (.int .i64) (.prod (.prod (.int .i64) (.prod (.int .i64) .unit)) (.prod (.int .i64) (.prod (.int .i64) (.prod (.prod (.int .i64) (.prod (.int .i64) (.prod (.int .i64) (.prod (.int .i64) .unit)))) .unit))))))).1 55:=⟨_,Tryz.underlying55,by kernel_rfl,_,_,rfl,rfl,by kernel_rfl,fitI,_,_,rfl,rfl,by kernel_rfl,fitI,_,_,rfl,rfl,by kernel_rfl,fitP,_,_,rfl,rfl,by kernel_rfl,fitI,_,_,rfl,rfl,by kernel_rfl,fitI,_,_,rfl,rfl,by kernel_rfl,fitMoney,rfl⟩
theorem fitEnts:(Fit Tryz.prog (.list (.prod (.int .i64) (.prod (.int .i64) (.prod (.prod (.int .i64) (.prod (.int .i64) .unit)) (.prod (.int .i64) (.prod (.int .i64) (.prod (.prod (.int .i64) (.prod (.int .i64) (.prod (.int .i64) (.prod (.int .i64) .unit)))) .unit)))))))).1 22:=⟨55,Tryz.underlying22,by kernel_rfl,by decide,fitEnt⟩
theorem fitBook:(Fit Tryz.prog (.prod (.int .i64) (.prod (.int .i64) (.prod (.int .i64) (.prod (.int .i64) (.prod (.int .i64) (.prod (.int .i64) (.prod (.list (.prod (.int .i64) (.prod (.int .i64) (.prod (.prod (.int .i64) (.prod (.int .i64) .unit)) (.prod (.int .i64) (.prod (.int .i64) (.prod (.prod (.int .i64) (.prod (.int .i64) (.prod (.int .i64) (.prod (.int .i64) .unit)))) .unit))))))) .unit)))))))).1 24:=⟨_,Tryz.underlying24,by kernel_rfl,_,_,rfl,rfl,by kernel_rfl,fitI,_,_,rfl,rfl,by kernel_rfl,fitI,_,_,rfl,rfl,by kernel_rfl,fitI,_,_,rfl,rfl,by kernel_rfl,fitI,_,_,rfl,rfl,by kernel_rfl,fitI,_,_,rfl,rfl,by kernel_rfl,fitI,_,_,rfl,rfl,by kernel_rfl,fitEnts,rfl⟩
set_option maxRecDepth 100000 in
theorem lifted3 (os:Os) (started:os.Started) (H:Type) (enc:TypeId×Value->H) :
    ReturnsInHanded {} Tryz.checked os 3 .any (Rows.topSharesSpec.pre6 enc Tryz.prog Tryz.f3 Rows.topSharesRow.domain false) (Rows.topSharesSpec.post enc Tryz.prog Tryz.f3 false true false false):=by
  refine returnsInHanded_of_change (C:=Tryz.checked) own0 started (by kernel_rfl) Tryz.func3
    (ChangeSpec.witness6 (enc:=enc) (C:=Tryz.checked) false ⟨#[],#[.agg #[.int .i64 0,.int .i64 0,.int .i64 0,.int .i64 0,.int .i64 0,.int .i64 0,.slice none 0 0],.int .i64 0,.int .i64 0],[]⟩ 8 (by kernel_rfl) (by kernel_rfl) (by kernel_rfl) (by kernel_rfl)) ?_
  intro W base args ds gs before hval0 hW hcnd _
  have hval:∀ (j:Nat) t v,Tryz.f3.params.toList[j]? = some t->args.toList[j]? = some v->Value.okWide Tryz.prog W .any base t v:=fun j t v h1 h2=>hval0 j t v (by simpa using h1) (by simpa using h2)
  have hW':=hW
  obtain ⟨p,q,hA0,hV,rfl,hfz,hnd⟩:=hW
  have hA:DataW.TrodAll enc Tryz.prog W 0 (fun _=>true) true Tryz.f3.params.toList args.toList ds p:=hA0
  obtain ⟨rfl,rfl⟩:=trodVars_none hV
  simp only [List.append_nil] at hW'
  have hlt:∀ y∈p,y.block<W.heap.size:=fun y hy=>by simpa using hW'.lt y hy
  have hfit:FitAll Tryz.prog (.prod (.prod (.int .i64) (.prod (.int .i64) (.prod (.int .i64) (.prod (.int .i64) (.prod (.int .i64) (.prod (.int .i64) (.prod (.list (.prod (.int .i64) (.prod (.int .i64) (.prod (.prod (.int .i64) (.prod (.int .i64) .unit)) (.prod (.int .i64) (.prod (.int .i64) (.prod (.prod (.int .i64) (.prod (.int .i64) (.prod (.int .i64) (.prod (.int .i64) .unit)))) .unit))))))) .unit))))))) (.prod (.int .i64) (.prod (.int .i64) .unit))) Tryz.f3.params.toList:=by
    rw [Tryz.params3]
    exact ⟨_,_,rfl,fitBook,⟨_,_,rfl,fitI,⟨_,_,rfl,fitI,rfl⟩⟩⟩
  obtain ⟨x,hx⟩:=open_all _ _ args.toList ds p hfit hval hA
  have hA1:=hA
  rw [Tryz.params3] at hA1
  obtain ⟨v0,vs0,d0,ds0,p0,q0,e0,rfl,g0,h0,r0⟩:=trodAll_cons hA1
  obtain ⟨v1,vs1,d1,ds1,p1,q1,e1,rfl,g1,h1,r1⟩:=trodAll_cons r0
  obtain ⟨v2,vs2,d2,ds2,p2,q2,e2,rfl,g2,h2,r2⟩:=trodAll_cons r1
  obtain ⟨_,rfl,_⟩:=trodAll_nil r2
  refine (says c3 (x:=x) (f3_true x) trivial hx (fun _ _ h=>h.elim)).mono fun e W' ⟨he,hb⟩=>?_
  subst he
  exact ⟨_,rfl,_,_,_,[],_,[],hW',trodAll_cons_mk (shut_bool Tryz.underlying4 _) trodAll_mk0,
    all_behind (by kernel_rfl) hb _ _ _ _ (by kernel_rfl) hA hlt,rfl,hb.frame _,fun h=>by cases h⟩
theorem over3:Rows.TopSharesSaid :=
  OpenClaim.holds_of_wide 3 Tryz.f3 rfl rfl rfl rfl rfl rfl rfl ⟨rfl,rfl,rfl,rfl,rfl⟩ rfl rfl rfl rfl rfl (by kernel_rfl) Tryz.func3 (by kernel_rfl)
    (of_decide_eq_true (by kernel_rfl)) (by unfold Func.isWrapper;first|(rw [if_pos (by decide +kernel)];kernel_rfl)|(rw [if_neg (by decide +kernel)];exact ⟨rfl,rfl⟩))
    (fun os started H enc _=>lifted3 os started H enc)
end Go.V
namespace Go.Proofs.YtkohflnifdpahaaGreat
/-- TopSharesSaid: for every input the law answers true; the input reads as it did. No condition. -/
theorem topShares_holds : Rows.TopSharesSaid := Go.V.over3
#print axioms topShares_holds
end Go.Proofs.YtkohflnifdpahaaGreat
