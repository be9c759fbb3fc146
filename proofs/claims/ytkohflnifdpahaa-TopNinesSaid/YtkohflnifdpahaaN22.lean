/- Proved here: topNines_holds (the law TopNinesSaid answers true at every input), with no condition. -/
import Derived.Test.YtkohflnifdpahaaN17
import Derived.Test.YtkohflnifdpahaaN21
import Derived.Test.YtkohflnifdpahaaN16
import Derived.Test.YtkohflnifdpahaaN18
import Derived.Test.YtkohflnifdpahaaN13
import Derived.Test.YtkohflnifdpahaaN10
set_option linter.all false
namespace Go.V
open Go.Proofs
theorem best_a (N:Nat) (xs:List Int) (fv:Value) {ys:List Int} (hys:cut xs (1:Int) (lenI xs)=ys) (hl:ys.length<1000000):∀ (n:Nat) (out:Int) (i:Nat),i<=ys.length->ys.length<n+i ->
    ∃ r,L123a_0 N n (xs,(fv,())) out (i:Int) = .ret r/\r<=out/\(∀ (j:Nat) (h:j<ys.length),i<=j->r<=ys[j])/\(r=out\/r∈ys):=by
  intro n
  induction n with
  | zero=>intro out i h1 h2;omega
  | succ n ih =>
    intro out i h1 h2
    rw [L123a_0_succ]
    dsimp only
    rw [hys]
    by_cases h:i<ys.length
    . have e1:decide ((i:Int)<lenI ys)=true:=by unfold lenI;simp only [decide_eq_true_eq];omega
      have e2:inb (i:Int) ys.length=true:=by unfold inb;simp only [Bool.and_eq_true,decide_eq_true_eq];omega
      have e3:List.getD ys (i:Int).toNat (0:Int)=ys[i]:=by rw [Int.toNat_natCast,List.getD_eq_getElem?_getD,List.getElem?_eq_getElem h];rfl
      have e4:IntKind.i64.wrap ((i:Int)+1)=((i+1:Nat):Int):=wrap_small (by omega)
      rw [e1,e2,e3,e4]
      simp only [cond_true]
      by_cases hlt:ys[i]<out
      . rw [decide_eq_true hlt]
        obtain ⟨r,a1,a2,a3,a4⟩:=ih ys[i] (i+1) (by omega) (by omega)
        refine ⟨r,a1,by omega,fun j hj hij=>?_,.inr ?_⟩
        . by_cases e:j=i
          . subst e;exact a2
          . exact a3 j hj (by omega)
        . rcases a4 with rfl|a4
          . exact List.getElem_mem h
          . exact a4
      . rw [decide_eq_false hlt]
        obtain ⟨r,a1,a2,a3,a4⟩:=ih out (i+1) (by omega) (by omega)
        refine ⟨r,a1,a2,fun j hj hij=>?_,a4⟩
        by_cases e:j=i
        . subst e;omega
        . exact a3 j hj (by omega)
    . have e1:decide ((i:Int)<lenI ys)=false:=by unfold lenI;simp only [decide_eq_false_iff_not];omega
      rw [e1]
      exact ⟨out,rfl,by omega,fun j hj hij=>by omega,.inl rfl⟩
theorem end_a {xs:List Int} {y:Int} (hy:y∈xs) (hall:∀ x∈xs,y<=x) (hl:xs.length<1000000):f123a (xs,((Value.func (.func 69) #[] #[]),())) = .ret y:=by
  have e0:f123a (xs,((Value.func (.func 69) #[] #[]),()))=F123a fuel (xs,((Value.func (.func 69) #[] #[]),())):=by
    unfold f123a
    exact e123a fuel (xs,((Value.func (.func 69) #[] #[]),()))
  rw [e0]
  unfold F123a
  dsimp only
  obtain ⟨x0,xt,rfl⟩:∃ x0 xt,xs=x0 :: xt:=by
    cases xs with
    | nil=>cases hy
    | cons a b=>exact ⟨a,b,rfl⟩
  have hcut:cut (x0 :: xt) (1:Int) (lenI (x0 :: xt))=xt:=by
    unfold cut lenI
    rw [show (1:Int).toNat=1 from rfl,Int.toNat_natCast]
    show List.take _ xt=xt
    rw [List.take_of_length_le (by simp)]
  have hl:xt.length+1<1000000:=by simpa using hl
  have e1:inb (0:Int) (x0 :: xt).length=true:=by unfold inb;simp only [Bool.and_eq_true,decide_eq_true_eq,List.length_cons];omega
  have e2:cutOk (1:Int) (lenI (x0 :: xt)) (lenI (x0 :: xt))=true:=by unfold cutOk lenI;simp only [Bool.and_eq_true,decide_eq_true_eq,List.length_cons];omega
  rw [e1,e2]
  simp only [cond_true]
  have hf:1000000<=fuel:=by unfold fuel;decide
  obtain ⟨r,a1,a2,a3,a4⟩:=best_a fuel (x0 :: xt) (Value.func (.func 69) #[] #[]) hcut (by omega) fuel x0 0 (by omega) (by omega)
  have e3:List.getD (x0 :: xt) (0:Int).toNat (0:Int)=x0:=rfl
  rw [e3]
  refine a1.trans ?_
  have hr:r∈x0 :: xt:=by
    rcases a4 with rfl|a4
    . exact List.mem_cons_self
    . exact List.mem_cons_of_mem _ a4
  have h1:=hall r hr
  have h2:r<=y:=by
    rcases List.mem_cons.1 hy with rfl|hy
    . exact a2
    . obtain ⟨j,hj,rfl⟩:=List.mem_iff_getElem.1 hy
      exact a3 j hj (by omega)
  rw [show r=y by omega]
theorem best_b (N:Nat) (xs:List Int) (fv:Value) {ys:List Int} (hys:cut xs (1:Int) (lenI xs)=ys) (hl:ys.length<1000000):∀ (n:Nat) (out:Int) (i:Nat),i<=ys.length->ys.length<n+i ->
    ∃ r,L123b_0 N n (xs,(fv,())) out (i:Int) = .ret r/\out<=r/\(∀ (j:Nat) (h:j<ys.length),i<=j->ys[j]<=r)/\(r=out\/r∈ys):=by
  intro n
  induction n with
  | zero=>intro out i h1 h2;omega
  | succ n ih =>
    intro out i h1 h2
    rw [L123b_0_succ]
    dsimp only
    rw [hys]
    by_cases h:i<ys.length
    . have e1:decide ((i:Int)<lenI ys)=true:=by unfold lenI;simp only [decide_eq_true_eq];omega
      have e2:inb (i:Int) ys.length=true:=by unfold inb;simp only [Bool.and_eq_true,decide_eq_true_eq];omega
      have e3:List.getD ys (i:Int).toNat (0:Int)=ys[i]:=by rw [Int.toNat_natCast,List.getD_eq_getElem?_getD,List.getElem?_eq_getElem h];rfl
      have e4:IntKind.i64.wrap ((i:Int)+1)=((i+1:Nat):Int):=wrap_small (by omega)
      rw [e1,e2,e3,e4]
      simp only [cond_true]
      by_cases hlt:ys[i] > out
      . rw [decide_eq_true hlt]
        obtain ⟨r,a1,a2,a3,a4⟩:=ih ys[i] (i+1) (by omega) (by omega)
        refine ⟨r,a1,by omega,fun j hj hij=>?_,.inr ?_⟩
        . by_cases e:j=i
          . subst e;exact a2
          . exact a3 j hj (by omega)
        . rcases a4 with rfl|a4
          . exact List.getElem_mem h
          . exact a4
      . rw [decide_eq_false hlt]
        obtain ⟨r,a1,a2,a3,a4⟩:=ih out (i+1) (by omega) (by omega)
        refine ⟨r,a1,a2,fun j hj hij=>?_,a4⟩
        by_cases e:j=i
        . subst e;omega
        . exact a3 j hj (by omega)
    . have e1:decide ((i:Int)<lenI ys)=false:=by unfold lenI;simp only [decide_eq_false_iff_not];omega
      rw [e1]
      exact ⟨out,rfl,by omega,fun j hj hij=>by omega,.inl rfl⟩
theorem end_b {xs:List Int} {y:Int} (hy:y∈xs) (hall:∀ x∈xs,x<=y) (hl:xs.length<1000000):f123a (xs,((Value.func (.func 70) #[] #[]),())) = .ret y:=by
  have e0:f123a (xs,((Value.func (.func 70) #[] #[]),()))=F123b fuel (xs,((Value.func (.func 70) #[] #[]),())):=by
    unfold f123a
    exact e123b fuel (xs,((Value.func (.func 70) #[] #[]),()))
  rw [e0]
  unfold F123b
  dsimp only
  obtain ⟨x0,xt,rfl⟩:∃ x0 xt,xs=x0 :: xt:=by
    cases xs with
    | nil=>cases hy
    | cons a b=>exact ⟨a,b,rfl⟩
  have hcut:cut (x0 :: xt) (1:Int) (lenI (x0 :: xt))=xt:=by
    unfold cut lenI
    rw [show (1:Int).toNat=1 from rfl,Int.toNat_natCast]
    show List.take _ xt=xt
    rw [List.take_of_length_le (by simp)]
  have hl:xt.length+1<1000000:=by simpa using hl
  have e1:inb (0:Int) (x0 :: xt).length=true:=by unfold inb;simp only [Bool.and_eq_true,decide_eq_true_eq,List.length_cons];omega
  have e2:cutOk (1:Int) (lenI (x0 :: xt)) (lenI (x0 :: xt))=true:=by unfold cutOk lenI;simp only [Bool.and_eq_true,decide_eq_true_eq,List.length_cons];omega
  rw [e1,e2]
  simp only [cond_true]
  have hf:1000000<=fuel:=by unfold fuel;decide
  obtain ⟨r,a1,a2,a3,a4⟩:=best_b fuel (x0 :: xt) (Value.func (.func 70) #[] #[]) hcut (by omega) fuel x0 0 (by omega) (by omega)
  have e3:List.getD (x0 :: xt) (0:Int).toNat (0:Int)=x0:=rfl
  rw [e3]
  refine a1.trans ?_
  have hr:r∈x0 :: xt:=by
    rcases a4 with rfl|a4
    . exact List.mem_cons_self
    . exact List.mem_cons_of_mem _ a4
  have h1:=hall r hr
  have h2:y<=r:=by
    rcases List.mem_cons.1 hy with rfl|hy
    . exact a2
    . obtain ⟨j,hj,rfl⟩:=List.mem_iff_getElem.1 hy
      exact a3 j hj (by omega)
  rw [show r=y by omega]
theorem ends_is {xs:List Int} {lo hi:Int} (h1:lo∈xs) (h2:hi∈xs) (h:∀ x∈xs,lo<=x/\x<=hi) (hl:xs.length<1000000):f94 (xs,()) = .ret (lo,hi,()):=by
  unfold f94 F94
  dsimp only
  rw [end_a h1 (fun x hx=>(h x hx).1) hl]
  dsimp only
  rw [end_b h2 (fun x hx=>(h x hx).2) hl]
def D0:RSH:=(10,3,[4,1,0],[13,26,44],())
def T0:TAB:=(D0,1,())
def Sup (g:GF) (a b:Int):Prop:=∀ j,(j<a\/b<j)->g j=none
theorem run_none (gO:GF) (tab:TAB) {j:Int}:∀ (ys:List Int) (g:GF),g j=none->(∀ n∈ys,gO (j - n)=none)->runG gO tab g ys j=none
  | [],g,h,_=>h
  | n :: ys,g,h,hn=>by
    show runG gO tab (stepG gO n (figN tab n) g) ys j=none
    refine run_none gO tab ys _ ?_ fun m hm=>hn m (List.mem_cons_of_mem _ hm)
    show (match gO (j - n) with|some p=>some (merged g j (yOf (figN tab n) p))|none=>g j)=none
    rw [hn n List.mem_cons_self]
    exact h
theorem run_sup {gO:GF} {a b:Int} (h:Sup gO a b) (tab:TAB) {lo hi:Int} {ys:List Int} (hy:∀ n∈ys,lo<=n/\n<=hi):Sup (runG gO tab (fun _=>none) ys) (a+lo) (b+hi):=fun j hj=>run_none gO tab ys _ rfl fun n hn=>h _ (by have:=hy n hn;omega)
theorem Sup.bd {g:GF} {a b:Int} (h:Sup g a b) (h1 : -1000000<=a) (h2:b<=1000000):Bd g:=fun k p hk=>by
  by_cases hj:k<a\/b<k
  . rw [h k hj] at hk;cases hk
  . omega
noncomputable def g1:GF:=runG g93 T0 (fun _=>none) [12,13,14]
noncomputable def g2:GF:=runG g1 T0 (fun _=>none) [25,26,27]
noncomputable def g3:GF:=runG g2 T0 (fun _=>none) [43,44,45]
theorem s0:Sup g93 0 0:=fun j hj=>by unfold g93 upd;rw [if_neg (by omega)]
theorem s1:Sup g1 12 14:=run_sup (ys:=[12,13,14]) (lo:=12) (hi:=14) s0 T0 (by decide)
theorem s2:Sup g2 37 41:=run_sup (ys:=[25,26,27]) (lo:=25) (hi:=27) s1 T0 (by decide)
theorem s3:Sup g3 80 86:=run_sup (ys:=[43,44,45]) (lo:=43) (hi:=45) s2 T0 (by decide)
theorem g3_80:g3 80=some (8,8):=by kernel_rfl
theorem g3_81:g3 81=some (8,8):=by kernel_rfl
theorem g3_82:g3 82=some (8,9):=by kernel_rfl
theorem g3_83:g3 83=some (8,9):=by kernel_rfl
theorem g3_84:g3 84=some (8,9):=by kernel_rfl
theorem g3_85:g3 85=some (8,9):=by kernel_rfl
theorem g3_86:g3 86=some (9,9):=by kernel_rfl
theorem sums_step {tab:TAB} {m:Nat} {row row':Int} {gO:GF} {nO:Nat} {sp:Int×Int×Unit} {ys:List Int} {c:Nat} (h1:decide (row<lenR tab)=true) (h2:f137 (tab,(row,())) = .ret sp) (h3:((decide (-1000000000<sp.1) && decide (sp.2.1<1000000000)) && (decide (sp.1<=sp.2.1+1) && decide ((sp.2.1+1 - sp.1).toNat<fuel)))=true) (h4:exactL sp.1 sp.2.1 (sp.2.1+1 - sp.1).toNat=ys) (h5:ys.all (okN tab)=true) (h6:Bd gO) (h7:(sp.2.1+1 - sp.1).toNat=c) (h8:c * nO<1000000) (h9:IntKind.i64.wrap (row+1)=row') :
    sumsR tab (m+1) row gO nO=sumsR tab m row' (runG gO tab (fun _=>none) ys) (c * nO):=by
  conv=>lhs;unfold sumsR
  rw [h1,h2]
  dsimp only
  rw [h3,h4,h5,bdB_iff.2 h6,h7,h9,decide_eq_true h8]
  rfl
theorem sums_end {tab:TAB} {m:Nat} {row:Int} {gO:GF} {nO:Nat} (h1:decide (row<lenR tab)=false):sumsR tab (m+1) row gO nO = .ret (gO,nO):=by
  conv=>lhs;unfold sumsR
  rw [h1]
theorem fuel_lt {n:Nat} (h:n<1000):decide (n<fuel)=true:=by
  unfold fuel
  simp only [decide_eq_true_eq]
  omega
theorem k137_0:f137 (T0,(0,())) = .ret (12,14,()):=by kernel_rfl
theorem k137_1:f137 (T0,(1,())) = .ret (25,27,()):=by kernel_rfl
theorem k137_2:f137 (T0,(2,())) = .ret (43,45,()):=by kernel_rfl
theorem kok_0:([12,13,14]:List Int).all (okN T0)=true:=by kernel_rfl
theorem kok_1:([25,26,27]:List Int).all (okN T0)=true:=by kernel_rfl
theorem kok_2:([43,44,45]:List Int).all (okN T0)=true:=by kernel_rfl
theorem ksums:sumsR T0 fuel 0 g93 1 = .ret (g3,27):=by
  obtain ⟨n,hn⟩:∃ n,fuel=n+4:=⟨fuel - 4,by
    have:1000<=fuel:=by unfold fuel;decide
    omega⟩
  rw [hn]
  rw [sums_step (m:=n+3) (row':=1) (ys:=[12,13,14]) (c:=3) rfl k137_0 (by rw [fuel_lt (by decide)];rfl) rfl kok_0 (s0.bd (by decide) (by decide)) rfl (by decide) (by decide)]
  rw [show runG g93 T0 (fun _=>none) [12,13,14]=g1 from rfl]
  rw [sums_step (m:=n+2) (row':=2) (ys:=[25,26,27]) (c:=3) rfl k137_1 (by rw [fuel_lt (by decide)];rfl) rfl kok_1 (s1.bd (by decide) (by decide)) rfl (by decide) (by decide)]
  rw [show runG g1 T0 (fun _=>none) [25,26,27]=g2 from rfl]
  rw [sums_step (m:=n+1) (row':=3) (ys:=[43,44,45]) (c:=3) rfl k137_2 (by rw [fuel_lt (by decide)];rfl) rfl kok_2 (s2.bd (by decide) (by decide)) rfl (by decide) (by decide)]
  exact sums_end rfl
theorem k92:f92 (D0,(1,())) = .ret (T0,0,()):=by kernel_rfl
noncomputable def oA (k:Int):Int:=match g3 k with|some p=>IntKind.i64.wrap (p.1 - figN T0 k)|none=>0
noncomputable def oB (k:Int):Int:=match g3 k with|some p=>IntKind.i64.wrap (p.2 - figN T0 k)|none=>0
theorem kA_80:oA 80=0:=by kernel_rfl
theorem kB_80:oB 80=0:=by kernel_rfl
theorem k62_80:f62 (T0,(80,((8,8,()),()))) = .ret (0,0,()):=by kernel_rfl
theorem kA_81:oA 81=0:=by kernel_rfl
theorem kB_81:oB 81=0:=by kernel_rfl
theorem k62_81:f62 (T0,(81,((8,8,()),()))) = .ret (0,0,()):=by kernel_rfl
theorem kA_82:oA 82=0:=by kernel_rfl
theorem kB_82:oB 82=1:=by kernel_rfl
theorem k62_82:f62 (T0,(82,((8,9,()),()))) = .ret (0,1,()):=by kernel_rfl
theorem kA_83:oA 83=0:=by kernel_rfl
theorem kB_83:oB 83=1:=by kernel_rfl
theorem k62_83:f62 (T0,(83,((8,9,()),()))) = .ret (0,1,()):=by kernel_rfl
theorem kA_84:oA 84=0:=by kernel_rfl
theorem kB_84:oB 84=1:=by kernel_rfl
theorem k62_84:f62 (T0,(84,((8,9,()),()))) = .ret (0,1,()):=by kernel_rfl
theorem kA_85:oA 85 = -1:=by kernel_rfl
theorem kB_85:oB 85=0:=by kernel_rfl
theorem k62_85:f62 (T0,(85,((8,9,()),()))) = .ret (-1,0,()):=by kernel_rfl
theorem kA_86:oA 86=0:=by kernel_rfl
theorem kB_86:oB 86=0:=by kernel_rfl
theorem k62_86:f62 (T0,(86,((9,9,()),()))) = .ret (0,0,()):=by kernel_rfl
theorem g3_cases {k:Int} {p:Int×Int} (h:g3 k=some p):(k=80/\p=(8,8))\/(k=81/\p=(8,8))\/(k=82/\p=(8,9))\/(k=83/\p=(8,9))\/(k=84/\p=(8,9))\/(k=85/\p=(8,9))\/(k=86/\p=(9,9)):=by
  by_cases hj:k<80\/86<k
  . rw [s3 k hj] at h;cases h
  . have:k=80\/k=81\/k=82\/k=83\/k=84\/k=85\/k=86:=by omega
    rcases this with rfl|rfl|rfl|rfl|rfl|rfl|rfl
    . rw [g3_80] at h;cases h;simp
    . rw [g3_81] at h;cases h;simp
    . rw [g3_82] at h;cases h;simp
    . rw [g3_83] at h;cases h;simp
    . rw [g3_84] at h;cases h;simp
    . rw [g3_85] at h;cases h;simp
    . rw [g3_86] at h;cases h;simp
theorem k61:S61 (D0,1,Value.func (.func 26) #[] #[],()) R61:=by
  refine ⟨rfl,⟨T0,oA,oB,g3,27,k92,ksums,s3.bd (by decide) (by decide),by decide,fun k p hk=>?_,fun xs hg hl=>?_⟩,rfl⟩
  . rcases g3_cases hk with ⟨rfl,rfl⟩|⟨rfl,rfl⟩|⟨rfl,rfl⟩|⟨rfl,rfl⟩|⟨rfl,rfl⟩|⟨rfl,rfl⟩|⟨rfl,rfl⟩
    . rw [kA_80,kB_80];exact k62_80
    . rw [kA_81,kB_81];exact k62_81
    . rw [kA_82,kB_82];exact k62_82
    . rw [kA_83,kB_83];exact k62_83
    . rw [kA_84,kB_84];exact k62_84
    . rw [kA_85,kB_85];exact k62_85
    . rw [kA_86,kB_86];exact k62_86
  . refine ends_is (lo := -1) (hi:=1) ?_ ?_ (fun x hx=>?_) (by omega)
    . have:=(hg.all 85 _ g3_85 rfl).1
      rwa [kA_85] at this
    . have:=(hg.all 82 _ g3_82 rfl).2
      rwa [kB_82] at this
    . obtain ⟨k,p,hk,e⟩:=hg.of x hx
      rcases g3_cases hk with ⟨rfl,rfl⟩|⟨rfl,rfl⟩|⟨rfl,rfl⟩|⟨rfl,rfl⟩|⟨rfl,rfl⟩|⟨rfl,rfl⟩|⟨rfl,rfl⟩
      . rw [kA_80,kB_80] at e;omega
      . rw [kA_81,kB_81] at e;omega
      . rw [kA_82,kB_82] at e;omega
      . rw [kA_83,kB_83] at e;omega
      . rw [kA_84,kB_84] at e;omega
      . rw [kA_85,kB_85] at e;omega
      . rw [kA_86,kB_86] at e;omega
theorem k61f:f61 (D0,1,Value.func (.func 26) #[] #[],()) = .ret R61:=by
  unfold f61
  rw [if_pos k61]
end Go.V
namespace Go.V
open Go.Proofs
theorem k29:f29 (D0,(1,())) = .ret ((-1,1,()),(0,())):=by
  unfold f29 F29
  dsimp only
  rw [k61f]
  rfl
theorem f9_is (h27:f27v (A0,()) = .ret ([123,45,60,7],0,())) (h29:f29v (D0,(1,())) = .ret ((-1,1,()),(0,()))) (h31:f31 ([123,45,60,7],([123,45,60,7],())) = .ret true):f9 () = .ret true:=by
  unfold A0 at h27
  unfold D0 at h29
  unfold f9 F9
  rw [h27]
  dsimp only
  rw [h29]
  dsimp only
  rw [show ((0:Int)==0)=true from rfl]
  dsimp only
  rw [h31]
  rfl
theorem k9:f9 () = .ret true:=f9_is (by rw [f27v_eq];exact k27) (by rw [f29v_eq];exact k29) k31
theorem k9v:f9v () = .ret true:=by rw [f9v_eq];exact k9
end Go.V
namespace Go.V
open Go.Proofs
def inR (x lo hi:Int):Bool:=decide (lo<=x) && decide (x<=hi)
theorem inR_iff {x lo hi:Int}:inR x lo hi=true<->lo<=x/\x<=hi:=by unfold inR;simp
theorem in_any (x lo hi:Int):((match (decide (x >= lo)) with
  | true=>.ret (decide (x<=hi))
  | false=>.ret false):Out Bool) = .ret (inR x lo hi):=by
  unfold inR
  have e:decide (x >= lo)=decide (lo<=x):=rfl
  rw [e]
  cases decide (lo<=x)<;>rfl
theorem f70_val (x lo hi:Int):f70 (x,(lo,(hi,()))) = .ret (inR x lo hi):=by unfold f70 F70;exact in_any x lo hi
theorem f71_val (x:Int):f71 (x,()) = .ret (inR x 1 4):=by unfold f71 F71;exact in_any x 1 4
theorem getD_at {α:Type} {l:List α} {i:Nat} {d:α} (h:i<l.length):List.getD l (i:Int).toNat d=l[i]:=by
  rw [Int.toNat_natCast,List.getD_eq_getElem?_getD,List.getElem?_eq_getElem h];rfl
theorem inb_at {i n:Nat} (h:i<n):inb (i:Int) n=true:=by unfold inb;simp only [Bool.and_eq_true,decide_eq_true_eq];omega
theorem lt_len {α:Type} {l:List α} {i:Nat}:decide ((i:Int)<lenI l)=decide (i<l.length):=by unfold lenI;simp
theorem all_range {len:Nat} {B:Nat->Bool}:(List.range' 0 (len - 0)).all B=true<->∀ j,j<len->B j=true:=by
  simp [List.all_eq_true,List.mem_range']
theorem fits_at {α:Type} {xs:List α} {x:α} (h:xs.length<999999):fits xs [x]=true:=by unfold fits;simp only [decide_eq_true_eq,List.length_cons,List.length_nil];omega
theorem fuel_ge {n:Nat} (h:n<1000000):n<fuel+0:=by
  have:1000000<=fuel:=by unfold fuel;decide
  omega
end Go.V
namespace Go.V
open Go.Proofs
theorem tdiv_pos {a c:Int} (h:0<=a):a.tdiv c=a / c:=Int.tdiv_eq_ediv_of_nonneg h
end Go.V
namespace Go.V
open Go.Proofs
def colB (l:List Int):Bool:=(List.range' 0 (l.length - 0)).all fun i=>inR (l.getD i 0) (-999) 999
theorem f8n_val (x:Int):f8n (x,()) = .ret (inR x (-999) 999):=by
  unfold f8n F8n
  dsimp only
  have e:f9n (x,((-999:Int),((999:Int),()))) = .ret (inR x (-999) 999):=by unfold f9n F9n;exact in_any x (-999) 999
  rw [e]
theorem f9n_val (x lo hi:Int):f9n (x,(lo,(hi,()))) = .ret (inR x lo hi):=by unfold f9n F9n;exact in_any x lo hi
theorem f4n_val (l:List Int) (hl:l.length<1000000):f4n (l,()) = .ret (colB l && inR (lenI l) 1 6):=by
  unfold f4n F4n
  cases hc:colB l with
  | true =>
    have hall:∀ j,j<l.length->inR (l.getD j 0) (-999) 999=true:=all_range.1 hc
    have key:∀ n (i:Nat),i<=l.length->l.length<n+i->L4n_0 fuel n (l,()) (i:Int) = .ret (inR (lenI l) 1 6):=by
      intro n
      induction n with
      | zero=>intro i h1 h2;omega
      | succ n ih =>
        intro i h1 h2
        rw [L4n_0_succ]
        dsimp only
        rw [lt_len]
        by_cases hi:i<l.length
        . rw [decide_eq_true hi,inb_at hi]
          simp only [cond_true,Int.toNat_natCast]
          rw [f8n_val,hall i hi]
          dsimp only [Bool.not_true]
          rw [wrap_small (by omega)]
          exact ih (i+1) (by omega) (by omega)
        . rw [decide_eq_false hi]
          dsimp only
          rw [f9n_val]
    rw [Bool.true_and]
    exact key fuel 0 (by omega) (fuel_ge hl)
  | false =>
    have key:∀ n (i:Nat),i<=l.length->l.length<n+i->(List.range' i (l.length - i)).all (fun i=>inR (l.getD i 0) (-999) 999)=false->L4n_0 fuel n (l,()) (i:Int) = .ret false:=by
      intro n
      induction n with
      | zero=>intro i h1 h2;omega
      | succ n ih =>
        intro i h1 h2 h3
        rw [L4n_0_succ]
        dsimp only
        rw [lt_len]
        by_cases hi:i<l.length
        . rw [decide_eq_true hi,inb_at hi]
          simp only [cond_true,Int.toNat_natCast]
          have e:List.range' i (l.length - i)=i :: List.range' (i+1) (l.length - (i+1)):=by
            rw [show l.length - i=(l.length - (i+1))+1 by omega,List.range'_succ]
          rw [e,List.all_cons] at h3
          rw [f8n_val]
          cases hb:inR (l.getD i 0) (-999) 999 with
          | false=>rfl
          | true =>
            rw [hb,Bool.true_and] at h3
            dsimp only [Bool.not_true]
            rw [wrap_small (by omega)]
            exact ih (i+1) (by omega) (by omega) h3
        . rw [show l.length - i=0 by omega] at h3
          cases h3
    rw [Bool.false_and]
    exact key fuel 0 (by omega) (fuel_ge hl) hc
theorem f86_val (x lo hi:Int):f86 (x,(lo,(hi,()))) = .ret (inR x lo hi):=by unfold f86 F86;exact in_any x lo hi
theorem f117_val (x:Int):f117 (x,()) = .ret (!inR x (-999) 999):=by
  unfold f117 F117
  dsimp only
  have e:f118 (x,()) = .ret (inR x (-999) 999):=by
    unfold f118 F118
    dsimp only
    rw [f86_val]
  rw [e]
def BAD:Value:=Value.func (.func 30) #[] #[]
theorem l69_none {xs:List Int} (hl:xs.length<1000000) (h:∀ x∈xs,inR x (-999) 999=true):f69b (xs,(BAD,())) = .ret (-1):=by
  have e0:f69b (xs,(BAD,()))=F69b fuel (xs,(BAD,())):=by
    unfold f69b
    exact e69b fuel (xs,(BAD,()))
  rw [e0]
  unfold F69b
  have key:∀ n (i:Nat),i<=xs.length->xs.length<n+i->L69b_0 fuel n (xs,(BAD,())) (i:Int) = .ret (-1):=by
    intro n
    induction n with
    | zero=>intro i h1 h2;omega
    | succ n ih =>
      intro i h1 h2
      rw [L69b_0_succ]
      dsimp only
      rw [lt_len]
      by_cases hi:i<xs.length
      . rw [decide_eq_true hi,inb_at hi,getD_at hi]
        simp only [cond_true]
        rw [f117_val,h _ (List.getElem_mem hi)]
        dsimp only [Bool.not_true]
        rw [wrap_small (by omega)]
        exact ih (i+1) (by omega) (by omega)
      . rw [decide_eq_false hi]
  exact key fuel 0 (by omega) (fuel_ge hl)
theorem f65_none {xs:List Int} (hl:xs.length<1000000) (h:∀ x∈xs,inR x (-999) 999=true):f65b (xs,(BAD,())) = .ret false:=by
  have e0:f65b (xs,(BAD,()))=F65b fuel (xs,(BAD,())):=by
    unfold f65b
    exact e65b fuel (xs,(BAD,()))
  rw [e0]
  unfold F65b
  dsimp only
  have e1:=l69_none hl h
  unfold BAD at e1
  rw [e1]
  rfl
theorem f88_col {l:List Int} (hl:l.length<1000000) (h:colB l=true) (h2:inR (lenI l) 1 6=true):f88 (l,()) = .ret true:=by
  have hall:∀ j,j<l.length->inR (l.getD j 0) (-999) 999=true:=all_range.1 h
  unfold f88 F88
  dsimp only
  rw [f86_val,h2]
  dsimp only
  have e1:=f65_none hl (fun x hx=>by
    obtain ⟨i,hi,rfl⟩:=List.getElem_of_mem hx
    have:=hall i hi
    rw [List.getD_eq_getElem?_getD,List.getElem?_eq_getElem hi] at this
    exact this)
  unfold BAD at e1
  rw [e1]
  rfl
def smallB (x:Int):Prop := -1000000<=x/\x<=1000000
theorem f97_mul {u q:Int} (hu:0<u) (hu2:u<=1000) (h:smallB q) (h2:smallB (u * q)):f97 ((u,()),(u * q,())) = .ret q:=by
  obtain ⟨a1,a2⟩:=h
  obtain ⟨b1,b2⟩:=h2
  unfold f97 F97
  dsimp only
  rw [show (u != (0:Int))=true by simp;omega]
  simp only [cond_true]
  have e:(u * q).tdiv u=q:=Int.mul_tdiv_cancel_left q (by omega)
  rw [e,wr (x:=q) (by omega) (by omega),Int.mul_comm q u,wr (x:=u * q) (by omega) (by omega),decide_eq_false (by omega)]
theorem f98_mul {u q:Int} (hu:0<u) (hu2:u<=1000) (h:smallB q) (h2:smallB (u * q)):f98 ((u,()),(u * q,())) = .ret q:=by
  obtain ⟨a1,a2⟩:=h
  obtain ⟨b1,b2⟩:=h2
  unfold f98 F98
  dsimp only
  have e:(0:Int) - u * q=u * (-q):=by rw [Int.mul_neg];omega
  rw [wr (x:=0 - u * q) (by omega) (by omega),e,f97_mul hu hu2 ⟨by omega,by omega⟩ ⟨by rw [<- e];omega,by rw [<- e];omega⟩]
  dsimp only
  rw [wr (x:=0 - -q) (by omega) (by omega)]
  simp
theorem f12_ofS {u v r rule:Int} (hr:smallB r) (h:f39 (v,(u,(rule,()))) = .ret (r,(0,()))):f12 (v,(u,(rule,()))) = .ret (r,(true,())):=by
  obtain ⟨hr1,hr2⟩:=hr
  unfold f12 F12
  dsimp only
  rw [h]
  dsimp only
  rw [show ((0:Int)==0)=true from rfl]
  dsimp only
  rw [decide_eq_true (show r >= -1099511627776 by omega)]
  dsimp only
  rw [decide_eq_true (show r<=1099511627776 by omega)]
theorem f12_mul {u q rule:Int} (hu:0<u) (hu2:u<=1000) (h:smallB q) (h2:smallB (u * q)) (hr:rule=1\/rule=2):f12 (u * q,(u,(rule,()))) = .ret (q,(true,())):=by
  refine f12_ofS h ?_
  have h2':=h2
  obtain ⟨b1,b2⟩:=h2'
  unfold f39 F39
  dsimp only
  rw [f70_val,inR_iff.2 (show -1099511627776<=u * q/\u * q<=1099511627776 by omega)]
  simp only [Bool.not_true]
  rw [f70_val,inR_iff.2 (show 1<=u/\u<=1048576 by omega)]
  simp only [Bool.not_true]
  rcases hr with rfl|rfl
  . rw [f71_val,show inR 1 1 4=true by decide]
    simp only [Bool.not_true]
    rw [show ((1:Int)==0)=false from rfl,show ((1:Int)==1)=true from rfl]
    simp only [cond_true,cond_false]
    rw [f97_mul hu hu2 h h2]
  . rw [f71_val,show inR 2 1 4=true by decide]
    simp only [Bool.not_true]
    rw [show ((2:Int)==0)=false from rfl,show ((2:Int)==1)=false from rfl,show ((2:Int)==2)=true from rfl]
    simp only [cond_true,cond_false]
    rw [f98_mul hu hu2 h h2]
end Go.V
namespace Go.V
open Go.Proofs
theorem f115_val {xs:List Int} (hl:xs.length<1000000) {i:Nat} (hi:i<xs.length):∃ b l,f115 (xs,((i:Int),())) = .ret (xs.getD i 0,(b,(l,()))):=by
  have e1:IntKind.i64.wrap (lenI xs - 1)=((xs.length - 1:Nat):Int):=by
    unfold lenI
    rw [wr (by omega) (by omega)]
    omega
  unfold f115 F115
  dsimp only
  rw [e1]
  by_cases h:i=xs.length - 1
  . refine ⟨0,true,?_⟩
    rw [show ((i:Int)==((xs.length - 1:Nat):Int))=true by rw [beq_iff_eq];omega]
    dsimp only
    rw [inb_at hi,Int.toNat_natCast]
    rfl
  . refine ⟨xs.getD (i+1) 0,false,?_⟩
    rw [show ((i:Int)==((xs.length - 1:Nat):Int))=false by rw [beq_eq_false_iff_ne];omega]
    dsimp only
    rw [inb_at hi,wrap_small (by omega),inb_at (show i+1<xs.length by omega),Int.toNat_natCast,Int.toNat_natCast]
    rfl
def sgn (a v:Int):Int:=if a<0 then -v else v
theorem f139_val {a p q s:Int} (h1 : -1000<=p/\p<=1000) (h2 : -1000<=q/\q<=1000) (h3 : -1000<=s/\s<=1000):f139 (a,(p,(q,(s,())))) = .ret (sgn a (100 * p+10 * q+s)):=by
  unfold f139 F139 sgn
  dsimp only
  rw [wr (x:=100 * p) (by omega) (by omega),wr (x:=10 * q) (by omega) (by omega),wr (x:=100 * p+10 * q) (by omega) (by omega),wr (x:=100 * p+10 * q+s) (by omega) (by omega),
    wr (x:=0 - (100 * p+10 * q+s)) (by omega) (by omega)]
  by_cases h:a<0
  . rw [decide_eq_true h,if_pos h]
    dsimp only
    rw [Int.zero_sub]
  . rw [decide_eq_false h,if_neg h]
theorem figs {a:Int} (h1 : -999<=a) (h2:a<=999):∃ A B C:Int,(0<=A/\A<=9)/\(0<=B/\B<=9)/\(0<=C/\C<=9)/\a=sgn a (100 * A+10 * B+C) /\
    IntKind.i64.wrap ((if IntKind.i64.wrap (0 - a) > a then IntKind.i64.wrap (0 - a) else a).tdiv 100)=A /\
    (IntKind.i64.wrap ((if IntKind.i64.wrap (0 - a) > a then IntKind.i64.wrap (0 - a) else a).tdiv 10)).tmod 10=B /\
    (if IntKind.i64.wrap (0 - a) > a then IntKind.i64.wrap (0 - a) else a).tmod 10=C:=by
  rw [wr (x:=0 - a) (by omega) (by omega)]
  have hm:∃ m,(if 0 - a > a then 0 - a else a)=m/\0<=m/\m<=999/\a=sgn a m:=by
    unfold sgn
    by_cases h:a<0
    . refine ⟨-a,?_,by omega,by omega,?_⟩
      . rw [if_pos (by omega)];omega
      . rw [if_pos h];omega
    . refine ⟨a,?_,by omega,by omega,?_⟩
      . rw [if_neg (by omega)]
      . rw [if_neg h]
  obtain ⟨m,e,m0,m1,ha⟩:=hm
  rw [e,tdiv_pos m0,tdiv_pos m0,wr (x:=m / 100) (by omega) (by omega),wr (x:=m / 10) (by omega) (by omega),Int.tmod_eq_emod_of_nonneg (by omega),Int.tmod_eq_emod_of_nonneg m0]
  refine ⟨m / 100,m / 10 % 10,m % 10,⟨by omega,by omega⟩,⟨by omega,by omega⟩,⟨by omega,by omega⟩,?_,rfl,rfl,rfl⟩
  rw [show 100 * (m / 100)+10 * (m / 10 % 10)+m % 10=m by omega]
  exact ha
theorem f128_val {a b n:Int} {l:Bool} (h1 : -999<=a) (h2:a<=999):∃ r,f128 ((a,(b,(l,()))),(n,())) = .ret r/\(r=true->∃ q,a - n=9 * q):=by
  obtain ⟨A,B,C,hA,hB,hC,ha,eA,eB,eC⟩:=figs h1 h2
  unfold f128 F128
  dsimp only
  rw [eA,eB,eC,f139_val (by omega) (by omega) (by omega)]
  dsimp only
  cases hn:n==sgn a (100 * B+10 * A+C) with
  | true =>
    refine ⟨true,rfl,fun _=>?_⟩
    rw [beq_iff_eq] at hn
    unfold sgn at hn ha
    by_cases h:a<0
    . rw [if_pos h] at hn ha
      exact ⟨10 * (B - A),by omega⟩
    . rw [if_neg h] at hn ha
      exact ⟨10 * (A - B),by omega⟩
  | false =>
    dsimp only
    rw [f139_val (by omega) (by omega) (by omega)]
    refine ⟨_,rfl,fun hr=>?_⟩
    rw [beq_iff_eq] at hr
    unfold sgn at hr ha
    by_cases h:a<0
    . rw [if_pos h] at hr ha
      exact ⟨C - B,by omega⟩
    . rw [if_neg h] at hr ha
      exact ⟨B - C,by omega⟩
theorem f129_val {a b n:Int} {l:Bool} (h1 : -999<=a) (h2:a<=999):∃ r,f129 ((a,(b,(l,()))),(n,())) = .ret r/\(r=true->∃ q,a - n=10 * q):=by
  obtain ⟨A,B,C,hA,hB,hC,ha,eA,eB,eC⟩:=figs h1 h2
  unfold f129 F129
  dsimp only
  rw [eA,eB,eC,wr (x:=A - 1) (by omega) (by omega),wr (x:=B - 1) (by omega) (by omega)]
  have hsec:∃ r,(match (decide (B > (0:Int))) with
      | true=>(match f139 (a,(A,(B - 1,(C,())))) with
        | .ret r_5=>Out.ret (n==r_5)
        | .pan p_6=>.pan p_6
        | .fail=>.fail)
      | false=>.ret false) = .ret r/\(r=true->∃ q,a - n=10 * q):=by
    by_cases hb:B > 0
    . rw [decide_eq_true hb,f139_val (by omega) (by omega) (by omega)]
      refine ⟨_,rfl,fun hr=>?_⟩
      rw [beq_iff_eq] at hr
      unfold sgn at hr ha
      by_cases h:a<0
      . rw [if_pos h] at hr ha
        exact ⟨-1,by omega⟩
      . rw [if_neg h] at hr ha
        exact ⟨1,by omega⟩
    . rw [decide_eq_false hb]
      exact ⟨false,rfl,fun h=>by cases h⟩
  by_cases hA0:A > 0
  . rw [decide_eq_true hA0,f139_val (by omega) (by omega) (by omega)]
    dsimp only
    cases hn:n==sgn a (100 * (A - 1)+10 * B+C) with
    | true =>
      refine ⟨true,rfl,fun _=>?_⟩
      rw [beq_iff_eq] at hn
      unfold sgn at hn ha
      by_cases h:a<0
      . rw [if_pos h] at hn ha
        exact ⟨-10,by omega⟩
      . rw [if_neg h] at hn ha
        exact ⟨10,by omega⟩
    | false=>exact hsec
  . rw [decide_eq_false hA0]
    exact hsec
theorem f134_val {a b n:Int} {l:Bool}:∃ r,f134 ((a,(b,(l,()))),(n,())) = .ret r:=by
  unfold f134 F134
  dsimp only
  cases l
  . exact ⟨_,rfl⟩
  . exact ⟨_,rfl⟩
section
variable {N n : Nat} {x : ((Int × (Int × (Bool × Unit))) × (Int × Unit))}
theorem l116_0:L116_0 N (n+1) x 0=L116_0 N n x 1:=by rw [L116_0_succ];rfl
theorem l116_1 {b:Bool} (h:f128 (x.1,(x.2.1,())) = .ret b):L116_0 N (n+1) x 1=bif b then .ret ((),1) else L116_0 N n x 2:=by
  rw [L116_0_succ]
  show (match f128 (x.1,(x.2.1,())) with | .ret r=>(match r with|true=>Out.ret ((),(1:Int))|false=>L116_0 N n x 2) | .pan _=>.fail | .fail=>.fail)=_
  rw [h]
  cases b<;>rfl
theorem l116_2 {b:Bool} (h:f129 (x.1,(x.2.1,())) = .ret b):L116_0 N (n+1) x 2=bif b then .ret ((),2) else L116_0 N n x 3:=by
  rw [L116_0_succ]
  show (match f129 (x.1,(x.2.1,())) with | .ret r=>(match r with|true=>Out.ret ((),(2:Int))|false=>L116_0 N n x 3) | .pan _=>.fail | .fail=>.fail)=_
  rw [h]
  cases b<;>rfl
theorem l116_3:L116_0 N (n+1) x 3=bif (x.2.1==(IntKind.i64.wrap (0 - x.1.1))) then .ret ((),3) else L116_0 N n x 4:=by
  rw [L116_0_succ]
  show (match (x.2.1==(IntKind.i64.wrap (0 - x.1.1))) with|true=>Out.ret ((),(3:Int))|false=>L116_0 N n x 4)=_
  cases (x.2.1==(IntKind.i64.wrap (0 - x.1.1)))<;>rfl
theorem l116_4 {b:Bool} (h:f134 (x.1,(x.2.1,())) = .ret b):L116_0 N (n+1) x 4=bif b then .ret ((),4) else L116_0 N n x 5:=by
  rw [L116_0_succ]
  show (match f134 (x.1,(x.2.1,())) with | .ret r=>(match r with|true=>Out.ret ((),(4:Int))|false=>L116_0 N n x 5) | .pan _=>.fail | .fail=>.fail)=_
  rw [h]
  cases b<;>rfl
theorem l116_5:L116_0 N (n+1) x 5 = .ret ((),0):=by rw [L116_0_succ];rfl
end
def unitK (k:Int):Int:=if k=1 then 9 else if k=2 then 10 else if k=3 then 2 else 1
theorem f116_val {a b n:Int} {l:Bool} (h1 : -999<=a) (h2:a<=999):∃ k,f116 ((a,(b,(l,()))),(n,())) = .ret k/\(k=0\/((k=1\/k=2\/k=3\/k=4)/\∃ q,a - n=unitK k * q)):=by
  obtain ⟨b1,e1,q1⟩:=f128_val (b:=b) (n:=n) (l:=l) h1 h2
  obtain ⟨b2,e2,q2⟩:=f129_val (b:=b) (n:=n) (l:=l) h1 h2
  obtain ⟨b4,e4⟩:=f134_val (a:=a) (b:=b) (n:=n) (l:=l)
  have hf:∃ m,fuel=m+6:=by
    have:1000<=fuel:=by unfold fuel;decide
    exact ⟨fuel - 6,by omega⟩
  obtain ⟨m,hm⟩:=hf
  have key:∀ N,∃ k,L116_0 N (m+6) ((a,(b,(l,()))),(n,())) 0 = .ret ((),k)/\(k=0\/((k=1\/k=2\/k=3\/k=4)/\∃ q,a - n=unitK k * q)):=by
    intro N
    rw [l116_0,l116_1 (x:=((a,(b,(l,()))),(n,()))) e1]
    cases hb1:b1 with
    | true=>exact ⟨1,rfl,.inr ⟨.inl rfl,q1 hb1⟩⟩
    | false =>
      rw [cond_false,l116_2 (x:=((a,(b,(l,()))),(n,()))) e2]
      cases hb2:b2 with
      | true=>exact ⟨2,rfl,.inr ⟨.inr (.inl rfl),q2 hb2⟩⟩
      | false =>
        rw [cond_false,l116_3]
        dsimp only
        rw [wr (x:=0 - a) (by omega) (by omega)]
        cases hb3:n==0 - a with
        | true =>
          rw [beq_iff_eq] at hb3
          refine ⟨3,rfl,.inr ⟨.inr (.inr (.inl rfl)),a,?_⟩⟩
          show a - n=2 * a
          omega
        | false =>
          rw [cond_false,l116_4 (x:=((a,(b,(l,()))),(n,()))) e4]
          cases hb4:b4 with
          | true =>
            refine ⟨4,rfl,.inr ⟨.inr (.inr (.inr rfl)),a - n,?_⟩⟩
            show a - n=1 * (a - n)
            omega
          | false =>
            rw [cond_false,l116_5]
            exact ⟨0,rfl,.inl rfl⟩
  obtain ⟨k,hk,hk2⟩:=key fuel
  refine ⟨k,?_,hk2⟩
  unfold f116 F116
  have e:L116_0 fuel fuel ((a,(b,(l,()))),(n,())) 0=L116_0 fuel (m+6) ((a,(b,(l,()))),(n,())) 0:=congrArg (fun z=>L116_0 fuel z ((a,(b,(l,()))),(n,())) 0) hm
  rw [e,hk]
  rfl
end Go.V
namespace Go.V
open Go.Proofs
abbrev ERL:Type:=List (Int×(Int×Unit))
def okE (xs ys:List Int) (e:Int×(Int×Unit)):Prop :=
  ∃ p:Nat,e.1=(p:Int)/\p<xs.length/\xs.getD p 0≠ys.getD p 0/\(e.2.1=1\/e.2.1=2\/e.2.1=3\/e.2.1=4)/\∃ q,xs.getD p 0 - ys.getD p 0=unitK e.2.1 * q
structure OutOK (xs ys:List Int) (out:ERL) (t:Nat):Prop where
  ok:∀ j,j<out.length->okE xs ys (out.getD j ((0:Int),((0:Int),())))/\(out.getD j ((0:Int),((0:Int),()))).1<t
  inc:∀ j,j+1<out.length->(out.getD j ((0:Int),((0:Int),()))).1<(out.getD (j+1) ((0:Int),((0:Int),()))).1
  len:out.length<=t
theorem getD_snoc_lt {α:Type} {l:List α} {x d:α} {j:Nat} (h:j<l.length):(l++[x]).getD j d=l.getD j d:=by
  rw [List.getD_eq_getElem?_getD,List.getD_eq_getElem?_getD,List.getElem?_append_left h]
theorem getD_snoc_eq {α:Type} {l:List α} {x d:α}:(l++[x]).getD l.length d=x:=by
  rw [List.getD_eq_getElem?_getD,List.getElem?_append_right (Nat.le_refl _),Nat.sub_self]
  rfl
theorem OutOK.next {xs ys:List Int} {out:ERL} {t:Nat} (h:OutOK xs ys out t):OutOK xs ys out (t+1) :=
  ⟨fun j hj=>⟨(h.ok j hj).1,by have:=(h.ok j hj).2;omega⟩,h.inc,by have:=h.len;omega⟩
theorem OutOK.snoc {xs ys:List Int} {out:ERL} {t:Nat} (h:OutOK xs ys out t) {k:Int} (he:okE xs ys ((t:Int),(k,()))):OutOK xs ys (out++[((t:Int),(k,()))]) (t+1):=by
  refine ⟨fun j hj=>?_,fun j hj=>?_,?_⟩
  . rw [List.length_append,List.length_singleton] at hj
    by_cases h1:j<out.length
    . rw [getD_snoc_lt h1]
      exact ⟨(h.ok j h1).1,by have:=(h.ok j h1).2;omega⟩
    . have:j=out.length:=by omega
      subst this
      rw [getD_snoc_eq]
      exact ⟨he,by show (t:Int)<((t+1:Nat):Int);omega⟩
  . rw [List.length_append,List.length_singleton] at hj
    by_cases h1:j+1<out.length
    . rw [getD_snoc_lt h1,getD_snoc_lt (by omega)]
      exact h.inc j h1
    . have:j+1=out.length:=by omega
      rw [this,getD_snoc_eq,getD_snoc_lt (by omega)]
      exact (h.ok j (by omega)).2
  . rw [List.length_append,List.length_singleton]
    have:=h.len
    omega
theorem pan_five (t:Int):errOut (.iface 71 (toVal (.prod (.int .i64) .unit) ((valOf (.prod (.int .i64) .unit) (t,())).getD []))) = .ret 5:=rfl
def colR (xs:List Int):Prop:=∀ j,j<xs.length -> -999<=xs.getD j 0/\xs.getD j 0<=999
theorem l18 {xs ys:List Int} (hl:xs.length<1000000) (he:ys.length=xs.length) (hx:colR xs):∀ (n i:Nat) (out:ERL),i<=xs.length->xs.length<n+i->OutOK xs ys out i ->
    (∃ r,L18n_0 fuel n (xs,(ys,())) out (i:Int) = .ret r/\OutOK xs ys r xs.length)\/∃ p,L18n_0 fuel n (xs,(ys,())) out (i:Int) = .pan p/\errOut p = .ret 5:=by
  intro n
  induction n with
  | zero=>intro i out h1 h2;omega
  | succ n ih =>
    intro i out h1 h2 ho
    rw [L18n_0_succ]
    dsimp only
    rw [lt_len,he]
    by_cases hi:i<xs.length
    . rw [decide_eq_true hi,inb_at hi,Int.toNat_natCast]
      simp only [cond_true]
      cases hq:(List.getD ys i (0:Int))==(List.getD xs i (0:Int)) with
      | true =>
        dsimp only
        rw [wrap_small (by omega)]
        exact ih (i+1) out (by omega) (by omega) ho.next
      | false =>
        have hne:xs.getD i 0≠ys.getD i 0:=fun e=>by rw [e] at hq;simp at hq
        dsimp only
        obtain ⟨b,l,e115⟩:=f115_val hl hi
        rw [e115]
        dsimp only
        obtain ⟨k,e116,hk⟩:=f116_val (a:=xs.getD i 0) (b:=b) (n:=ys.getD i 0) (l:=l) (hx i hi).1 (hx i hi).2
        rw [e116]
        dsimp only
        rcases hk with rfl|⟨hk,hq2⟩
        . exact .inr ⟨_,rfl,pan_five _⟩
        . rw [show (k==(0:Int))=false by rw [beq_eq_false_iff_ne];omega]
          dsimp only
          rw [fits_at (by have:=ho.len;omega),wrap_small (by omega)]
          simp only [cond_true]
          exact ih (i+1) _ (by omega) (by omega) (ho.snoc ⟨i,rfl,hi,hne,hk,hq2⟩)
    . rw [decide_eq_false hi]
      have:i=xs.length:=by omega
      subst this
      exact .inl ⟨out,rfl,ho⟩
theorem f18n_val {xs ys:List Int} (hl:xs.length<1000000) (he:ys.length=xs.length) (hx:colR xs) :
    (∃ r,f18n (xs,(ys,())) = .ret r/\OutOK xs ys r xs.length)\/∃ p,f18n (xs,(ys,())) = .pan p/\errOut p = .ret 5:=by
  unfold f18n F18n
  exact l18 hl he hx fuel 0 [] (by omega) (fuel_ge hl) ⟨fun j hj=>absurd hj (Nat.not_lt_zero _),fun j hj=>absurd hj (Nat.not_lt_zero _),Nat.le_refl _⟩
theorem f6n_val {xs ys:List Int} (hl:xs.length<1000000) (he:ys.length=xs.length) (h1:f88 (xs,()) = .ret true) (h2:f88 (ys,()) = .ret true) (hx:colR xs) :
    ∃ r,f6n (xs,(ys,())) = .ret r/\((r.2.1=5/\r.1=[])\/(r.2.1=0/\OutOK xs ys r.1 xs.length)):=by
  unfold f6n F6n
  dsimp only
  rw [h1]
  dsimp only [Bool.not_true]
  rw [h2]
  dsimp only [Bool.not_true]
  rw [show (lenI xs != lenI ys)=false by unfold lenI;rw [he];simp]
  dsimp only
  rcases f18n_val hl he hx with ⟨r,hr,ho⟩|⟨p,hp,h5⟩
  . rw [hr]
    exact ⟨_,rfl,.inr ⟨rfl,ho⟩⟩
  . rw [hp]
    dsimp only
    rw [h5]
    exact ⟨_,rfl,.inl ⟨rfl,rfl⟩⟩
theorem getE {xs ys:List Int} {e:Int×(Int×Unit)} (h:okE xs ys e):∃ (p:Nat) (k:Int),e=((p:Int),(k,()))/\p<xs.length/\xs.getD p 0≠ys.getD p 0/\(k=1\/k=2\/k=3\/k=4)/\∃ q,xs.getD p 0 - ys.getD p 0=unitK k * q:=by
  obtain ⟨p,h1,h2,h3,h4,h5⟩:=h
  obtain ⟨a,k,u⟩:=e
  cases h1
  exact ⟨p,k,rfl,h2,h3,h4,h5⟩
set_option maxHeartbeats 4000000 in
theorem l3_step {xs ys:List Int} {r:ERL×(Int×Unit)} (hl:xs.length<1000000) (he:ys.length=xs.length) (hx:colR xs) (hy:colR ys) (ho:OutOK xs ys r.1 xs.length) {N n i:Nat} (hi:i<r.1.length) :
    L3n_0 N (n+1) (xs,(ys,())) r (i:Int)=L3n_0 N n (xs,(ys,())) r ((i+1:Nat):Int):=by
  obtain ⟨p,k,hg,hp,hne,hk,q,hq⟩:=getE (ho.ok i hi).1
  have hrl:=ho.len
  have a1:=hx p hp
  have a2:=hy p (by omega)
  have c1:decide ((i:Int)<lenI r.1)=true:=by rw [lt_len,decide_eq_true hi]
  have c3:decide ((p:Int)<0)=false:=decide_eq_false (by omega)
  have c4:decide ((p:Int) >= lenI xs)=false:=decide_eq_false (by unfold lenI;omega)
  have c5:inb (p:Int) ys.length=true:=inb_at (by omega)
  have c6:IntKind.i64.wrap ((i:Int)+1)=((i+1:Nat):Int):=wrap_small (by omega)
  have b11:((1:Int)==1)=true:=rfl
  have b21:((2:Int)==1)=false:=rfl
  have b22:((2:Int)==2)=true:=rfl
  have b31:((3:Int)==1)=false:=rfl
  have b32:((3:Int)==2)=false:=rfl
  have b33:((3:Int)==3)=true:=rfl
  have b41:((4:Int)==1)=false:=rfl
  have b42:((4:Int)==2)=false:=rfl
  have b43:((4:Int)==3)=false:=rfl
  have b44:((4:Int)==4)=true:=rfl
  have hqq:(q != q)=false:=by simp
  rw [L3n_0_succ]
  dsimp only
  have hprev:(i:Int) > 0->IntKind.i64.wrap ((i:Int) - 1)=((i - 1:Nat):Int)/\∃ (p0:Nat) (k0:Int),List.getD r.1 (i - 1) ((0:Int),((0:Int),()))=((p0:Int),(k0,()))/\p0<p:=fun h0=>by
    refine ⟨by rw [wr (by omega) (by omega)];omega,?_⟩
    obtain ⟨p0,k0,hg0,_⟩:=getE (ho.ok (i - 1) (by omega)).1
    refine ⟨p0,k0,hg0,?_⟩
    have:=ho.inc (i - 1) (by omega)
    rw [hg0,show i - 1+1=i by omega,hg] at this
    have:(p0:Int)<p:=this
    omega
  by_cases h0:(i:Int) > 0
  . obtain ⟨w1,p0,k0,hg0,hlt⟩:=hprev h0
    have c7:decide ((p:Int)<=(p0:Int))=false:=decide_eq_false (by omega)
    rcases hk with rfl|rfl|rfl|rfl
    . have hq2:List.getD xs p 0 - List.getD ys p 0=9 * q:=hq
      have hq0:(q==0)=false:=by rw [beq_eq_false_iff_ne];intro e;subst e;omega
      have hw:IntKind.i64.wrap (List.getD xs p 0 - List.getD ys p 0)=9 * q:=by rw [hq2,wr (by omega) (by omega)]
      have m1:=f12_mul (u:=9) (q:=q) (rule:=1) (by omega) (by omega) ⟨by omega,by omega⟩ ⟨by omega,by omega⟩ (.inl rfl)
      have m2:=f12_mul (u:=9) (q:=q) (rule:=2) (by omega) (by omega) ⟨by omega,by omega⟩ ⟨by omega,by omega⟩ (.inr rfl)
      simp only [c1,inb_at hi,cond_true,Int.toNat_natCast,hg,c3,c4,decide_eq_true h0,w1,inb_at (show i - 1<r.1.length by omega),hg0,c7,b11,b21,b22,b31,b32,b33,b41,b42,b43,b44,inb_at hp,c5,hw,m1,m2,Bool.not_true,hqq,hq0,c6]
    . have hq2:List.getD xs p 0 - List.getD ys p 0=10 * q:=hq
      have hq0:(q==0)=false:=by rw [beq_eq_false_iff_ne];intro e;subst e;omega
      have hw:IntKind.i64.wrap (List.getD xs p 0 - List.getD ys p 0)=10 * q:=by rw [hq2,wr (by omega) (by omega)]
      have m1:=f12_mul (u:=10) (q:=q) (rule:=1) (by omega) (by omega) ⟨by omega,by omega⟩ ⟨by omega,by omega⟩ (.inl rfl)
      have m2:=f12_mul (u:=10) (q:=q) (rule:=2) (by omega) (by omega) ⟨by omega,by omega⟩ ⟨by omega,by omega⟩ (.inr rfl)
      simp only [c1,inb_at hi,cond_true,Int.toNat_natCast,hg,c3,c4,decide_eq_true h0,w1,inb_at (show i - 1<r.1.length by omega),hg0,c7,b11,b21,b22,b31,b32,b33,b41,b42,b43,b44,inb_at hp,c5,hw,m1,m2,Bool.not_true,hqq,hq0,c6]
    . have hq2:List.getD xs p 0 - List.getD ys p 0=2 * q:=hq
      have hq0:(q==0)=false:=by rw [beq_eq_false_iff_ne];intro e;subst e;omega
      have hw:IntKind.i64.wrap (List.getD xs p 0 - List.getD ys p 0)=2 * q:=by rw [hq2,wr (by omega) (by omega)]
      have m1:=f12_mul (u:=2) (q:=q) (rule:=1) (by omega) (by omega) ⟨by omega,by omega⟩ ⟨by omega,by omega⟩ (.inl rfl)
      have m2:=f12_mul (u:=2) (q:=q) (rule:=2) (by omega) (by omega) ⟨by omega,by omega⟩ ⟨by omega,by omega⟩ (.inr rfl)
      simp only [c1,inb_at hi,cond_true,Int.toNat_natCast,hg,c3,c4,decide_eq_true h0,w1,inb_at (show i - 1<r.1.length by omega),hg0,c7,b11,b21,b22,b31,b32,b33,b41,b42,b43,b44,inb_at hp,c5,hw,m1,m2,Bool.not_true,hqq,hq0,c6]
    . have hq2:List.getD xs p 0 - List.getD ys p 0=1 * q:=hq
      have hq0:(q==0)=false:=by rw [beq_eq_false_iff_ne];intro e;subst e;omega
      have hw:IntKind.i64.wrap (List.getD xs p 0 - List.getD ys p 0)=1 * q:=by rw [hq2,wr (by omega) (by omega)]
      have m1:=f12_mul (u:=1) (q:=q) (rule:=1) (by omega) (by omega) ⟨by omega,by omega⟩ ⟨by omega,by omega⟩ (.inl rfl)
      have m2:=f12_mul (u:=1) (q:=q) (rule:=2) (by omega) (by omega) ⟨by omega,by omega⟩ ⟨by omega,by omega⟩ (.inr rfl)
      simp only [c1,inb_at hi,cond_true,Int.toNat_natCast,hg,c3,c4,decide_eq_true h0,w1,inb_at (show i - 1<r.1.length by omega),hg0,c7,b11,b21,b22,b31,b32,b33,b41,b42,b43,b44,inb_at hp,c5,hw,m1,m2,Bool.not_true,hqq,hq0,c6]
  . rcases hk with rfl|rfl|rfl|rfl
    . have hq2:List.getD xs p 0 - List.getD ys p 0=9 * q:=hq
      have hq0:(q==0)=false:=by rw [beq_eq_false_iff_ne];intro e;subst e;omega
      have hw:IntKind.i64.wrap (List.getD xs p 0 - List.getD ys p 0)=9 * q:=by rw [hq2,wr (by omega) (by omega)]
      have m1:=f12_mul (u:=9) (q:=q) (rule:=1) (by omega) (by omega) ⟨by omega,by omega⟩ ⟨by omega,by omega⟩ (.inl rfl)
      have m2:=f12_mul (u:=9) (q:=q) (rule:=2) (by omega) (by omega) ⟨by omega,by omega⟩ ⟨by omega,by omega⟩ (.inr rfl)
      simp only [c1,inb_at hi,cond_true,Int.toNat_natCast,hg,c3,c4,decide_eq_false h0,b11,b21,b22,b31,b32,b33,b41,b42,b43,b44,inb_at hp,c5,hw,m1,m2,Bool.not_true,hqq,hq0,c6]
    . have hq2:List.getD xs p 0 - List.getD ys p 0=10 * q:=hq
      have hq0:(q==0)=false:=by rw [beq_eq_false_iff_ne];intro e;subst e;omega
      have hw:IntKind.i64.wrap (List.getD xs p 0 - List.getD ys p 0)=10 * q:=by rw [hq2,wr (by omega) (by omega)]
      have m1:=f12_mul (u:=10) (q:=q) (rule:=1) (by omega) (by omega) ⟨by omega,by omega⟩ ⟨by omega,by omega⟩ (.inl rfl)
      have m2:=f12_mul (u:=10) (q:=q) (rule:=2) (by omega) (by omega) ⟨by omega,by omega⟩ ⟨by omega,by omega⟩ (.inr rfl)
      simp only [c1,inb_at hi,cond_true,Int.toNat_natCast,hg,c3,c4,decide_eq_false h0,b11,b21,b22,b31,b32,b33,b41,b42,b43,b44,inb_at hp,c5,hw,m1,m2,Bool.not_true,hqq,hq0,c6]
    . have hq2:List.getD xs p 0 - List.getD ys p 0=2 * q:=hq
      have hq0:(q==0)=false:=by rw [beq_eq_false_iff_ne];intro e;subst e;omega
      have hw:IntKind.i64.wrap (List.getD xs p 0 - List.getD ys p 0)=2 * q:=by rw [hq2,wr (by omega) (by omega)]
      have m1:=f12_mul (u:=2) (q:=q) (rule:=1) (by omega) (by omega) ⟨by omega,by omega⟩ ⟨by omega,by omega⟩ (.inl rfl)
      have m2:=f12_mul (u:=2) (q:=q) (rule:=2) (by omega) (by omega) ⟨by omega,by omega⟩ ⟨by omega,by omega⟩ (.inr rfl)
      simp only [c1,inb_at hi,cond_true,Int.toNat_natCast,hg,c3,c4,decide_eq_false h0,b11,b21,b22,b31,b32,b33,b41,b42,b43,b44,inb_at hp,c5,hw,m1,m2,Bool.not_true,hqq,hq0,c6]
    . have hq2:List.getD xs p 0 - List.getD ys p 0=1 * q:=hq
      have hq0:(q==0)=false:=by rw [beq_eq_false_iff_ne];intro e;subst e;omega
      have hw:IntKind.i64.wrap (List.getD xs p 0 - List.getD ys p 0)=1 * q:=by rw [hq2,wr (by omega) (by omega)]
      have m1:=f12_mul (u:=1) (q:=q) (rule:=1) (by omega) (by omega) ⟨by omega,by omega⟩ ⟨by omega,by omega⟩ (.inl rfl)
      have m2:=f12_mul (u:=1) (q:=q) (rule:=2) (by omega) (by omega) ⟨by omega,by omega⟩ ⟨by omega,by omega⟩ (.inr rfl)
      simp only [c1,inb_at hi,cond_true,Int.toNat_natCast,hg,c3,c4,decide_eq_false h0,b11,b21,b22,b31,b32,b33,b41,b42,b43,b44,inb_at hp,c5,hw,m1,m2,Bool.not_true,hqq,hq0,c6]
theorem l3 {xs ys:List Int} {r:ERL×(Int×Unit)} (hl:xs.length<1000000) (he:ys.length=xs.length) (hx:colR xs) (hy:colR ys) (ho:OutOK xs ys r.1 xs.length):∀ n i:Nat,i<=r.1.length->r.1.length<n+i->L3n_0 fuel n (xs,(ys,())) r (i:Int) = .ret true:=by
  intro n
  induction n with
  | zero=>intro i h1 h2;omega
  | succ n ih =>
    intro i h1 h2
    by_cases hi:i<r.1.length
    . rw [l3_step hl he hx hy ho hi]
      exact ih (i+1) (by omega) (by omega)
    . rw [L3n_0_succ,lt_len,decide_eq_false hi]
      dsimp only
      rw [k9v]
theorem f3n_true (x:List Int×(List Int×Unit)):f3n x = .ret true:=by
  obtain ⟨xs,ys,⟨⟩⟩:=x
  unfold f3n F3n
  dsimp only
  rw [k9v]
  dsimp only
  by_cases h1:lenI xs > 8
  . rw [decide_eq_true h1]
  rw [decide_eq_false h1]
  dsimp only
  by_cases h2:lenI ys > 8
  . rw [decide_eq_true h2]
  rw [decide_eq_false h2]
  dsimp only
  have hx8:xs.length<1000000:=by unfold lenI at h1;omega
  have hy8:ys.length<1000000:=by unfold lenI at h2;omega
  rw [f4n_val xs hx8]
  dsimp only
  cases hc1:(colB xs && inR (lenI xs) 1 6) with
  | false=>rfl
  | true =>
  rw [Bool.not_true]
  dsimp only
  rw [f4n_val ys hy8]
  dsimp only
  cases hc2:(colB ys && inR (lenI ys) 1 6) with
  | false=>rfl
  | true =>
  rw [Bool.not_true]
  dsimp only
  cases h3:lenI xs != lenI ys with
  | true=>rfl
  | false =>
  dsimp only
  rw [Bool.and_eq_true] at hc1 hc2
  have he:ys.length=xs.length:=by
    have:lenI xs=lenI ys:=by simpa using h3
    unfold lenI at this
    omega
  have col:∀ {l:List Int},colB l=true->colR l:=fun h j hj=>inR_iff.1 (all_range.1 h j hj)
  obtain ⟨r,hr,h|⟨h,ho⟩⟩:=f6n_val hx8 he (f88_col hx8 hc1.1 hc1.2) (f88_col hy8 hc2.1 hc2.2) (col hc1.1)
  . rw [hr]
    dsimp only
    rw [h.1,h.2]
    rfl
  . rw [hr]
    dsimp only
    rw [h]
    have hrl:=ho.len
    exact l3 hx8 he (col hc1.1) (col hc2.1) ho fuel 0 (by omega) (fuel_ge (by omega))
end Go.V
namespace Go.V
open Go.Proofs Go.Proofs.Ytkohflnifdpahaa
open Go.ChangeShapes Go.WideShapes Go.ChangeAt Go.RowKit
theorem fitL22:(Fit Try.prog (.list (.int .i64))).1 22:=⟨3,Try.underlying22,by kernel_rfl,by decide,fitI⟩
set_option maxRecDepth 100000 in
theorem lifted3 (os:Os) (started:os.Started) (H:Type) (enc:TypeId×Value->H) :
    ReturnsInHanded {} Try.checked os 3 .any (Rows.topNinesSpec.pre6 enc Try.prog Try.f3 Rows.topNinesRow.domain false) (Rows.topNinesSpec.post enc Try.prog Try.f3 false true false false):=by
  refine returnsInHanded_of_change (C:=Try.checked) own0 started (by kernel_rfl) Try.func3
    (ChangeSpec.witness6 (enc:=enc) (C:=Try.checked) false ⟨#[],#[.slice none 0 0,.slice none 0 0],[]⟩ 8 (by kernel_rfl) (by kernel_rfl) (by kernel_rfl) (by kernel_rfl)) ?_
  intro W base args ds gs before hval0 hW hcnd _
  have hval:∀ (j:Nat) t v,Try.f3.params.toList[j]? = some t->args.toList[j]? = some v->Value.okWide Try.prog W .any base t v:=fun j t v h1 h2=>hval0 j t v (by simpa using h1) (by simpa using h2)
  have hW':=hW
  obtain ⟨p,q,hA0,hV,rfl,hfz,hnd⟩:=hW
  have hA:DataW.TrodAll enc Try.prog W 0 (fun _=>true) true Try.f3.params.toList args.toList ds p:=hA0
  obtain ⟨rfl,rfl⟩:=trodVars_none hV
  simp only [List.append_nil] at hW'
  have hlt:∀ y∈p,y.block<W.heap.size:=fun y hy=>by simpa using hW'.lt y hy
  have hfit:FitAll Try.prog (.prod (.list (.int .i64)) (.prod (.list (.int .i64)) .unit)) Try.f3.params.toList:=by
    rw [Try.params3]
    exact ⟨_,_,rfl,fitL22,⟨_,_,rfl,fitL22,rfl⟩⟩
  obtain ⟨x,hx⟩:=open_all _ _ args.toList ds p hfit hval hA
  have hA1:=hA
  rw [Try.params3] at hA1
  obtain ⟨v0,vs0,d0,ds0,p0,q0,e0,rfl,g0,h0,r0⟩:=trodAll_cons hA1
  obtain ⟨v1,vs1,d1,ds1,p1,q1,e1,rfl,g1,h1,r1⟩:=trodAll_cons r0
  obtain ⟨_,rfl,_⟩:=trodAll_nil r1
  refine (says c3n (x:=x) (f3n_true x) trivial hx (fun _ _ h=>h.elim)).mono fun e W' ⟨he,hb⟩=>?_
  subst he
  exact ⟨_,rfl,_,_,_,[],_,[],hW',trodAll_cons_mk (shut_bool Try.underlying4 _) trodAll_mk0,
    all_behind (by kernel_rfl) hb _ _ _ _ (by kernel_rfl) hA hlt,rfl,hb.frame _,fun h=>by cases h⟩
theorem over3:Rows.TopNinesSaid :=
  OpenClaim.holds_of_wide 3 Try.f3 rfl rfl rfl rfl rfl rfl rfl ⟨rfl,rfl,rfl,rfl,rfl⟩ rfl rfl rfl rfl rfl (by kernel_rfl) Try.func3 (by kernel_rfl)
    (of_decide_eq_true (by kernel_rfl)) (by unfold Func.isWrapper;first|(rw [if_pos (by decide +kernel)];kernel_rfl)|(rw [if_neg (by decide +kernel)];exact ⟨rfl,rfl⟩))
    (fun os started H enc _=>lifted3 os started H enc)
end Go.V
namespace Go.Proofs.Ytkohflnifdpahaa
/-- TopNinesSaid: for every input the law answers true; the input reads as it did. No condition. -/
theorem topNines_holds : Rows.TopNinesSaid := Go.V.over3
#print axioms topNines_holds
end Go.Proofs.Ytkohflnifdpahaa
