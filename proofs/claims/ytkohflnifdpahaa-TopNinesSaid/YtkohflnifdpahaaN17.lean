/- A part of the proof of TopNinesSaid: no condition beyond what each theorem says. -/
import Derived.Test.YtkohflnifdpahaaN16
import Derived.Maps.Range
set_option linter.all false
namespace Go.V
open Go.Proofs
open Go.RowKit (Below)
abbrev DU:Type:=DataW Unit
abbrev GF:Type:=Int->Option (Int×Int)
def dP (p:Int×Int):DU:=.agg [.lit (.int .i64 p.1),.lit (.int .i64 p.2)]
theorem dP_inj {p q:Int×Int} (h:dP p=dP q):p=q:=by
  obtain ⟨a,b⟩:=p
  obtain ⟨c,d⟩:=q
  simp only [dP,DataW.agg.injEq,List.cons.injEq,DataW.lit.injEq,Lit.int.injEq,and_true,true_and] at h
  rw [h.1,h.2]
def Rs (v:Value):Option (DU×List MemPlace) :=
  match v with
  | .agg cs=>(match cs.toList with
    | [.int .i64 a,.int .i64 b]=>some (dP (a,b),[])
    | _=>none)
  | _=>none
theorem Rs_pair (a b:Int):Rs (pairV a b)=some (dP (a,b),[]):=rfl
theorem Rs_inv {v:Value} {y:DU×List MemPlace} (h:Rs v=some y):∃ a b,v=pairV a b/\y=(dP (a,b),[]):=by
  unfold Rs at h
  split at h
  . rename_i cs
    split at h
    . rename_i a b e
      cases h
      refine ⟨a,b,?_,rfl⟩
      unfold pairV
      congr 1
      exact Array.toList_inj.1 e
    . cases h
  . cases h
structure Reads (D:DU) (g:GF):Prop where
  isMap:Maps.IsMap D
  has:∀ k,rng k=true->Maps.has D (.int .i64 k)=(g k).isSome
  at_:∀ k p,g k=some p->∀ z,D.atKey (.int .i64 k) z=dP p
  miss:∀ k,rng k=true->g k=none->∀ z,D.atKey (.int .i64 k) z=z
  keys:∀ kl,Maps.has D kl=true->∃ k,rng k=true/\kl = .int .i64 k
  dom:∀ k p,g k=some p->rng k=true
def upd (g:GF) (k:Int) (p:Int×Int):GF:=fun j=>if j=k then some p else g j
theorem Reads.empty:Reads (.map []) (fun _=>none):=⟨⟨[],rfl⟩,fun _ _=>rfl,fun _ _ h=>(by cases h),fun _ _ _ _=>rfl,fun _ h=>(by cases h),fun _ _ h=>(by cases h)⟩
theorem Reads.put {D:DU} {g:GF} (h:Reads D g) {k:Int} (hk:rng k=true) (p:Int×Int):Reads (D.put (.int .i64 k) (dP p)) (upd g k p):=by
  have hkl:WideAt.IsKeyLit (.int .i64 k):=trivial
  have hne:∀ {j},j≠k->(Lit.int .i64 j) ≠ .int .i64 k:=fun h e=>h (by cases e;rfl)
  refine ⟨h.isMap.put _ _,fun j hj=>?_,fun j q hq z=>?_,fun j hj hq z=>?_,fun kl hl=>?_,fun j q hq=>?_⟩
  . unfold upd
    by_cases e:j=k
    . subst e;rw [if_pos rfl,Maps.has_put_same h.isMap hkl];rfl
    . rw [if_neg e,Maps.has_put_other (hne e)];exact h.has j hj
  . unfold upd at hq
    by_cases e:j=k
    . subst e;rw [if_pos rfl] at hq;cases hq;exact Maps.atKey_put_same h.isMap hkl _ _
    . rw [if_neg e] at hq;rw [Maps.atKey_put_other (hne e)];exact h.at_ j q hq z
  . unfold upd at hq
    by_cases e:j=k
    . subst e;rw [if_pos rfl] at hq;cases hq
    . rw [if_neg e] at hq;rw [Maps.atKey_put_other (hne e)];exact h.miss j hj hq z
  . by_cases e:kl = .int .i64 k
    . exact ⟨k,hk,e⟩
    . rw [Maps.has_put_other e] at hl;exact h.keys kl hl
  . unfold upd at hq
    by_cases e:j=k
    . subst e;exact hk
    . rw [if_neg e] at hq;exact h.dom j q hq
def MapG (g:GF) (n m:Nat) (w:World):Prop:=∃ D,w.ownsMap Try.prog 3 Rs m n D/\Reads D g
theorem MapG.keep {g:GF} {n m:Nat} {w w':World} (h:MapG g n m w) (hk:w'.heap[m]? = w.heap[m]?):MapG g n m w':=by
  obtain ⟨D,⟨es,c,h1,h2⟩,h3⟩:=h
  exact ⟨D,⟨es,c,hk.trans h1,h2⟩,h3⟩
theorem MapG.block {g:GF} {n m:Nat} {w:World} (h:MapG g n m w):∃ es c,w.heap[m]? = some (.map es c):=by
  obtain ⟨D,⟨es,c,h1,h2⟩,h3⟩:=h
  exact ⟨es,c,h1⟩
theorem key3 {k:Int} (hk:rng k=true):keyOf Try.prog 3 (.int .i64 k)=some (.int .i64 k):=Maps.keyOf_int_mk und3 (rng_wf hk)
theorem und136:Try.prog.underlying 95=some (.map 3 45):=by kernel_rfl
theorem zero45 (w:World):(zeroValue 45).run Try.prog w = .ok (pairV 0 0) w:=by kernel_rfl
theorem MapG.look {g:GF} {n m:Nat} {w:World} (h:MapG g n m w) {k:Int} (hk:rng k=true):(Instr.lookup 95 (.map (some m)) (.int .i64 k) true).run Try.prog w = .ok (.tuple #[pairV ((g k).getD (0,0)).1 ((g k).getD (0,0)).2,.bool (g k).isSome]) w:=by
  obtain ⟨D,h1,h2⟩:=h
  obtain ⟨v,ps,hr,hv⟩:=h1.look_ok keyI.law und136 (zero45 w) (Rs_pair 0 0) (key3 hk)
  rw [hr,h2.has k hk]
  obtain ⟨a,b,rfl,e⟩:=Rs_inv hv
  have e1:D.atKey (.int .i64 k) (dP (0,0))=dP (a,b):=congrArg (·.1) e
  cases hg:g k with
  | none =>
    rw [h2.miss k hk hg] at e1
    have:=dP_inj e1
    cases this
    rfl
  | some p =>
    rw [h2.at_ k p hg] at e1
    have:=dP_inj e1
    subst this
    rfl
theorem MapG.put {g:GF} {n m:Nat} {w:World} (h:MapG g n m w) (hn:n<1000000) {k:Int} (hk:rng k=true) (a b:Int):∃ es c,(Instr.mapUpdate 95 (.map (some m)) (.int .i64 k) (pairV a b)).run Try.prog w = .ok () (w.putObj m (.map es c))/\∀ w':World,w'.heap[m]? = some (.map es c)->MapG (upd g k (a,b)) (n+1) m w':=by
  obtain ⟨D,h1,h2⟩:=h
  obtain ⟨w1,hr,h3,es0,c0,es1,c1,hb,rfl⟩:=h1.store keyI.law und136 (by unfold maxLen;omega) (key3 hk) (Rs_pair a b)
  refine ⟨es1,c1,hr,fun w' hw'=>⟨_,?_,h2.put hk (a,b)⟩⟩
  obtain ⟨es2,c2,e1,e2⟩:=h3
  have e3:(ChangeMaps.setBlock w m (.map es1 c1)).heap[m]? = some (.map es1 c1):=ChangeMaps.heap_setBlock_same hb _
  rw [e3] at e1
  cases e1
  exact ⟨es1,c1,hw',e2⟩
def RangeG (g:GF) (left:Int->Bool) (cnt n m r:Nat) (w:World):Prop :=
  ∃ D lf,w.ranges Try.prog 3 Rs m r n D lf cnt/\Reads D g/\(∀ k,rng k=true->lf (.int .i64 k)=left k)/\(∀ kl,lf kl=true->∃ k,rng k=true/\kl = .int .i64 k)/\∀ k,rng k=true->left k=true->(g k).isSome=true
theorem RangeG.keep {g:GF} {left:Int->Bool} {cnt n m r:Nat} {w w':World} (h:RangeG g left cnt n m r w) (hm:w'.heap[m]? = w.heap[m]?) (hr:w'.heap[r]? = w.heap[r]?):RangeG g left cnt n m r w':=by
  obtain ⟨D,lf,⟨es,clock,since,seen,c0,h1,h2,h3,h4,h5,rest⟩,h⟩:=h
  exact ⟨D,lf,⟨es,clock,since,seen,c0,hm.trans h1,h2,h3,h4,hr.trans h5,rest⟩,h⟩
theorem RangeG.map {g:GF} {left:Int->Bool} {cnt n m r:Nat} {w:World} (h:RangeG g left cnt n m r w):MapG g n m w:=by
  obtain ⟨D,lf,h1,h2,_⟩:=h
  exact ⟨D,h1.owns,h2⟩
theorem RangeG.iter {g:GF} {left:Int->Bool} {cnt n m r:Nat} {w:World} (h:RangeG g left cnt n m r w):∃ a b c d,w.heap[r]? = some (.mapIter a b c d):=by
  obtain ⟨D,lf,⟨es,clock,since,seen,c0,h1,h2,h3,h4,h5,rest⟩,h⟩:=h
  exact ⟨_,_,_,_,h5⟩
theorem key3_inv {v:Value} {k:Int} (h:keyOf Try.prog 3 v=some (.int .i64 k)):v = .int .i64 k:=by
  cases v<;>simp [keyOf,und3,mapKey] at h
  obtain ⟨h1,h2⟩:=h
  simp_all
theorem RangeG.next {g:GF} {left:Int->Bool} {cnt n m r:Nat} {w:World} (h:RangeG g left cnt n m r w) (ty:TypeId) :
    (cnt=0/\(∀ k,rng k=true->left k=false)/\(Instr.next (.pointer (some ⟨r,0,none⟩)) false ty).run Try.prog w = .ok (.tuple #[.bool false]) w) \/
    ∃ k a b w' cnt',rng k=true/\left k=true/\g k=some (a,b)/\(Instr.next (.pointer (some ⟨r,0,none⟩)) false ty).run Try.prog w = .ok (.tuple #[.bool true,.int .i64 k,pairV a b]) w' /\
      RangeG g (fun x=>left x && !(x==k)) cnt' n m r w'/\cnt'<cnt/\w.grownBy w' (some r)/\w'.heap.size=w.heap.size/\(Instr.entry (.pointer (some ⟨r,0,none⟩))).run Try.prog w' = .ok (.tuple #[.int .i64 k,pairV a b]) w':=by
  obtain ⟨D,lf,h1,h2,h3,h4,h5⟩:=h
  rcases h1.next keyI.law ty with ⟨e1,e2,e3⟩|⟨key,v,kl,y,w',cnt',e1,e2,e3,e4,e5,e6,e7,e8,e9,e10⟩
  . exact .inl ⟨e1,fun k hk=>by rw [<- h3 k hk];exact e2 _,e3⟩
  . obtain ⟨k,hk,rfl⟩:=h4 kl e2
    obtain ⟨a,b,rfl,hy⟩:=Rs_inv e3
    have hkey:=key3_inv e1
    subst hkey
    have hl:left k=true:=by rw [<- h3 k hk];exact e2
    have hg:g k=some (a,b):=by
      cases hg:g k with
      | none=>have:=h5 k hk hl;rw [hg] at this;cases this
      | some p =>
        have h6:=e4 (dP (0,0))
        rw [h2.at_ k p hg,hy] at h6
        rw [dP_inj h6]
    refine .inr ⟨k,a,b,w',cnt',hk,hl,hg,e5,⟨D,_,e6,h2,fun x hx=>?_,fun kl hkl=>?_,fun x hx hlx=>?_⟩,e7,e8,e9,e10⟩
    . show (lf (.int .i64 x) && !(Lit.int .i64 x).sameKey (.int .i64 k))=_
      have e:(Lit.int .i64 x).sameKey (.int .i64 k)=(x==k):=by
        simp only [Lit.sameKey]
        by_cases e:x=k<;>simp [e]
      rw [h3 x hx,e]
    . simp only [Bool.and_eq_true] at hkl
      exact h4 kl hkl.1
    . simp only [Bool.and_eq_true] at hlx
      exact h5 x hx hlx.1
end Go.V
namespace Go.V
open Go.Proofs
open Go.RowKit (Below)
abbrev RSHTY:Ty:=.prod (.int .i64) (.prod (.int .i64) (.prod (.list (.int .i64)) (.prod (.list (.int .i64)) .unit)))
abbrev TABTY:Ty:=.prod RSHTY (.prod (.int .i64) .unit)
abbrev RSH:Type:=Int×Int×List Int×List Int×Unit
abbrev TAB:Type:=RSH×Int×Unit
noncomputable def r136_0:Array Oper:=regAt 0 (bodyOf Try.f77)
theorem info136_0:r136_0.toList.map opInfo=[(some 6,.load 66 (.tmp 1),none),
  (some 7,.load 3 (.tmp 2),none),
  (some 8,.call { callee:=.value (.func 78),args := #[.tmp 6,.tmp 7],argTypes := #[66,3] },none),
  (some 4,.alloc 45,none),
  (none,.store 45 (.tmp 4) (.tmp 8),none)]:=by kernel_rfl
noncomputable def r136_1:Array Oper:=regAt 1 (bodyOf Try.f77)
theorem info136_1:r136_1.toList.map opInfo=[(some 9,.fieldAddr 45 (.tmp 4) 0,none),
  (some 10,.load 3 (.tmp 9),none),
  (some 5,.assign (.tmp 10),none)]:=by kernel_rfl
noncomputable def r136_2:Array Oper:=regAt 2 (bodyOf Try.f77)
theorem info136_2:r136_2.toList.map opInfo=[(some 11,.move (.tmp 5),none),
  (some 12,.fieldAddr 45 (.tmp 4) 1,none),
  (some 13,.load 3 (.tmp 12),none),
  (some 14,.binOp .leq 3 (.tmp 11) (.tmp 13) 3,none)]:=by kernel_rfl
noncomputable def r136_3:Array Oper:=regAt 3 (bodyOf Try.f77)
theorem info136_3:r136_3.toList.map opInfo=[(some 15,.move (.tmp 5),none),
  (some 16,.binOp .add 3 (.tmp 15) (.const (.int .i64 1)) 3,none),
  (some 5,.assign (.tmp 16),none)]:=by kernel_rfl
noncomputable def r136_4:Array Oper:=regAt 4 (bodyOf Try.f77)
theorem info136_4:r136_4.toList.map opInfo=[(some 17,.move (.tmp 0),none),
  (some 18,.move (.tmp 5),none),
  (some 19,.call { callee:=.value (.tmp 17),args := #[.tmp 18],argTypes := #[3] },none),
  (some 20,.unOp .not 4 (.tmp 19),none)]:=by kernel_rfl
noncomputable def lb136:Code:=.seq (.seq (.region 2 r136_2 false) (.cond (.tmp 14) .skip (.exit 0))) (.seq (.block 1 (.seq (.region 4 r136_4 false) (.cond (.tmp 20) .ret .skip))) (.region 3 r136_3 false))
theorem body136:bodyOf Try.f77 = .seq (.region 0 r136_0 false) (.seq (.region 1 r136_1 false) (.block 0 (.loop lb136))):=by kernel_rfl
theorem some136:Try.f77.body=some (bodyOf Try.f77):=by kernel_rfl
theorem results136 {a:Act} {w:World}:(results Try.f77 a.tmps).run Try.prog w = .ok (.tuple #[]) w:=by
  simp [results,Try.results77,go_sem]
section
variable {a : Act} {w : World} {o : Oper}
theorem ex_loadP {T p:Nat} {t:Ty} (hty:tyOf Try.prog 9 T=some t) (ho:o.op = .load T (.tmp p)) {M:Mut} {v:Value} {x:t.den} (hp:tm a p=v) (h:RepV M w (.ptr t) v x):∃ u,RepV M w t u x/\(execOp a.eval o).run Try.prog w = .ok (.value u) w:=by
  obtain ⟨cs,e1,b,off,ec,e2,e3,e4,e5⟩:=h
  subst e1
  subst e2
  refine ⟨toVal t ec,⟨ec,rfl,e5⟩,?_⟩
  have e0:a.eval (.tmp p) = .pointer (some ⟨b,off,none⟩):=hp
  simp [execOp,ho,e0,Instr.loadAt,Instr.sureAddr,run_loadVar hty e3 fun j hj=>(e4 j hj).1]
theorem ex_alloc45 (ho:o.op = .alloc 45):(execOp a.eval o).run Try.prog w = .ok (.value (.pointer (some ⟨w.heap.size,0,none⟩))) (w.alloc (.cells #[.int .i64 0,.int .i64 0] 45)):=by
  simp only [execOp,ho]
  simp [go_sem]
theorem ex_store45 {i j:Nat} (ho:o.op = .store 45 (.tmp i) (.tmp j)) {b T:Nat} {c0 c1:Value} {x y:Int} (h1:tm a i = .pointer (some ⟨b,0,none⟩)) (h3:tm a j=pairV x y) (hh:w.heap[b]? = some (.cells #[c0,c1] T (0,0))):(execOp a.eval o).run Try.prog w = .ok .skip (w.setRow b #[.int .i64 x,.int .i64 y]):=by
  have e1:a.eval (.tmp i) = .pointer (some ⟨b,0,none⟩):=h1
  have e3:a.eval (.tmp j)=pairV x y:=h3
  have hrun:=run_storeVar (P:=Try.prog) (n:=9) (T:=45) (t:=.prod (.int .i64) (.prod (.int .i64) .unit)) (by kernel_rfl) (o:=0) (v:=pairV x y) rfl hh (by show 0+2<=2;omega) (fun v hv=>by simp [pairV,Value.cells] at hv;rcases hv with rfl|rfl<;>rfl)
  simp only [execOp,ho,e1,e3,Instr.storeAt,Instr.sureAddr,Sem.run_bind,Sem.run_pure,Result.andThen_ok]
  rw [hrun]
  rfl
theorem ex_field45 {k:Nat} (hk:k=0\/k=1) {p:Nat} (ho:o.op = .fieldAddr 45 (.tmp p) k) {b j:Nat} (h:tm a p = .pointer (some ⟨b,j,none⟩)):(execOp a.eval o).run Try.prog w = .ok (.value (.pointer (some ⟨b,j+k,none⟩))) w:=by
  have e:a.eval (.tmp p) = .pointer (some ⟨b,j,none⟩):=h
  simp only [execOp,ho,e]
  rcases hk with rfl|rfl<;>simp [go_sem,add_lit]
theorem ex_leq {p q:Nat} (ho:o.op = .binOp .leq 3 (.tmp p) (.tmp q) 3) {x y:Int} (h1:tm a p = .int .i64 x) (h2:tm a q = .int .i64 y):(execOp a.eval o).run Try.prog w = .ok (.value (.bool (decide (x<=y)))) w:=by
  have e1:a.eval (.tmp p) = .int .i64 x:=h1
  have e2:a.eval (.tmp q) = .int .i64 y:=h2
  have e3:(binOp .leq 3 (.int .i64 x) (.int .i64 y)).run Try.prog w = .ok (.bool (decide (x<=y))) w:=by simp [binOp,Op.intCmp]
  simp [execOp,ho,e1,e2,eqG_int,e3]
theorem ex_call137 {p q:Nat} (ho:o.op = .call { callee:=.value (.func 78),args := #[.tmp p,.tmp q],argTypes := #[66,3] }) {u v:Value} (h0:tm a p=u) (h1:tm a q=v):(execOp a.eval o).run Try.prog w = .ok (.enter 78 #[u,v]) w:=by
  have e0:a.eval (.tmp p)=u:=h0
  have e1:a.eval (.tmp q)=v:=h1
  have e2:a.eval (.func 78) = .func (.func 78) #[] #[]:=rfl
  have e3:=fun args=>enters_run (P:=Try.prog) (g:=78) (by kernel_rfl) args w
  simp [execOp,ho,resolve,e0,e1,e2,Deferred.ofValue,invoke,e3]
theorem ex_yieldI {p q:Nat} (ho:o.op = .call { callee:=.value (.tmp p),args := #[.tmp q],argTypes := #[3] }) {l:Nat} {u:Value} (h0:tm a p = .func (.yield l) #[] #[]) (h1:tm a q=u) {fn:FuncId} {tmps:Array Value} {assign body:Code} {w':World} (hy:(Instr.yield l #[u]).run Try.prog w = .ok (.round l fn tmps assign body) w') :
    (execOp a.eval o).run Try.prog w = .ok (.round l fn tmps assign body) w':=by
  have e0:a.eval (.tmp p) = .func (.yield l) #[] #[]:=h0
  have e1:a.eval (.tmp q)=u:=h1
  simp [execOp,ho,resolve,e0,e1,Deferred.ofValue,invoke,hy]
end
theorem slot_pair {M:Mut} {w:World} {st:St} {a:Act} {v:Value} {x:Int×Int×Unit} (h:SlotOK M w st a v (.d (.prod (.int .i64) (.prod (.int .i64) .unit)) x)):v=pairV x.1 x.2.1:=by
  obtain ⟨cs,rfl,c1,c2,rfl,e1,c3,c4,rfl,e3,e4⟩:=h
  have e1:c1=[.int .i64 x.1]:=e1
  have e3:c3=[.int .i64 x.2.1]:=e3
  have e4:c4=[]:=e4
  subst e1 e3 e4
  rfl
def exactL (lo hi:Int):Nat->List Int
  | 0=>[]
  | n+1=>lo :: exactL (lo+1) hi n
theorem exactL_len (hi:Int):∀ (n:Nat) (lo:Int),(exactL lo hi n).length=n
  | 0,_=>rfl
  | n+1,lo=>by simp [exactL,exactL_len hi n]
theorem exactL_get (hi:Int):∀ (n:Nat) (lo:Int) (i:Nat),i<n->(exactL lo hi n)[i]? = some (lo+i)
  | n+1,lo,0,_=>by simp [exactL]
  | n+1,lo,i+1,h=>by
    simp only [exactL,List.getElem?_cons_succ]
    rw [exactL_get hi n (lo+1) i (by omega)]
    congr 1
    push_cast
    omega
structure L136 (J:(Nat->Prop)->Nat->Mut->World->Prop) (W:World) (l:Nat) (lo hi:Int) (bb:Nat) (i:Nat) (a:Act) (w:World):Prop where
  ex:∃ M1,J (fun _=>False) i M1 w/\(∀ o,¬ M1 bb o)/\(∀ b o,M1 b o->b<w.heap.size)
  ge:W.heap.size<=bb
  le:W.heap.size<=w.heap.size
  cell:∃ T,w.heap[bb]? = some (.cells #[.int .i64 lo,.int .i64 hi] T (0,0))
  sz:a.tmps.size=21
  t0:tm a 0 = .func (.yield l) #[] #[]
  t4:tm a 4 = .pointer (some ⟨bb,0,none⟩)
  t5:tm a 5 = .int .i64 (lo+i)
  df:a.defers=[]
theorem loop136 {J:(Nat->Prop)->Nat->Mut->World->Prop} {Jx:(Nat->Prop)->World->Prop} {R:Nat->Prop} {W:World} {l nn:Nat} {lo hi:Int} {cnt:Nat} (hcnt:lo+cnt=hi+1) (hlo : -1000000000<lo) (hhi:hi<1000000000) (hR:∀ b,R b->b<W.heap.size)
    (hround:∀ B i M1 W1 u y,J B i M1 W1->(exactL lo hi cnt)[i]? = some y->RepV M1 W1 (.int .i64) u y->∃ fn tmps assign body,(Instr.yield l #[u]).run Try.prog W1 = .ok (.round l fn tmps assign body) W1 /\
        RoundIn Fence.wide nn Try.prog l fn tmps assign body W1 fun r W2 =>
          (r = .returned (.bool true)/\∃ M2,J B (i+1) M2 W2/\RoundKeeps R M1 W1 M2 W2/\∀ b,B b->W2.heap[b]? = W1.heap[b]?)\/(r = .returned (.bool false)/\Jx B W2/\∃ M2,RoundKeeps R M1 W1 M2 W2))
    {bb:Nat} {Q:Exit->Act->World->Prop} (hQ0:∀ a w,L136 J W l lo hi bb cnt a w->Q (.exit 0) a w) (hQr:∀ a w,Jx (fun _=>False) w->a.defers=[]->W.heap.size<=w.heap.size->Q .ret a w) :
    ∀ (m i:Nat) (a:Act) (w:World),i<=cnt->cnt<m+i->L136 J W l lo hi bb i a w->Code.roundsIn (fen none) 0 Try.prog lb136 Q m a w:=by
  intro m
  induction m with
  | zero=>intro i a w h1 h2 h;omega
  | succ m ih =>
    intro i a w hic hm L
    obtain ⟨T,hcell⟩:=L.cell
    have hsz:=L.sz
    rw [roundsIn_succ]
    show Code.wpIn (fen none) 0 Try.prog (.seq (.seq (.region 2 r136_2 false) (.cond (.tmp 14) .skip (.exit 0))) (.seq (.block 1 (.seq (.region 4 r136_4 false) (.cond (.tmp 20) .ret .skip))) (.region 3 r136_3 false))) _ a w
    refine wpIn_seq (wpIn_seq ?_)
    refine wpIn_region ?_
    rw [show r136_2.size=4 by kernel_rfl]
    show wpOpsIn (fen none) 0 Try.prog r136_2 _ [0,1,2,3] a w
    obtain ⟨ox0,ix0,dx0,px0,qx0⟩:=infoAt info136_2 (i:=0) rfl
    simp only at dx0 px0 qx0
    rw [wpOpsIn_cons]
    refine opr_value ix0 (wanted_none qx0) (fun c h=>by rw [px0] at h;cases h) (ex_move px0) ?_
    rw [dx0,L.t5]
    obtain ⟨ax1,hax1⟩:∃ zz:Act,zz=Act.put a (some 11) (.int .i64 (lo+i)):=⟨_,rfl⟩
    rw [<- hax1]
    have zx1:ax1.tmps.size=21:=by rw [hax1,size_put];exact hsz
    have tx1_4:tm ax1 4 = .pointer (some ⟨bb,0,none⟩):=by rw [hax1,tm_put_other (by omega)];exact L.t4
    obtain ⟨ox1,ix1,dx1,px1,qx1⟩:=infoAt info136_2 (i:=1) rfl
    simp only at dx1 px1 qx1
    rw [wpOpsIn_cons]
    refine opr_value ix1 (wanted_none qx1) (fun c h=>by rw [px1] at h;cases h) (ex_field45 (.inr rfl) px1 tx1_4) ?_
    rw [dx1]
    obtain ⟨ax2,hax2⟩:∃ zz:Act,zz=Act.put ax1 (some 12) (.pointer (some ⟨bb,0+1,none⟩)):=⟨_,rfl⟩
    rw [<- hax2]
    have zx2:ax2.tmps.size=21:=by rw [hax2,size_put];exact zx1
    have tx2_12:tm ax2 12 = .pointer (some ⟨bb,0+1,none⟩):=by rw [hax2];exact tm_put_same (by omega)
    obtain ⟨ox2,ix2,dx2,px2,qx2⟩:=infoAt info136_2 (i:=2) rfl
    simp only at dx2 px2 qx2
    rw [wpOpsIn_cons]
    refine opr_value ix2 (wanted_none qx2) (fun c h=>by rw [px2] at h;cases h) (ex_loadAt (v:=.int .i64 hi) (T:=3) (t:=.int .i64) (by kernel_rfl) rfl rfl px2 (b:=bb) (j:=0+1) tx2_12 hcell rfl) ?_
    rw [dx2]
    obtain ⟨ax3,hax3⟩:∃ zz:Act,zz=Act.put ax2 (some 13) (.int .i64 hi):=⟨_,rfl⟩
    rw [<- hax3]
    have zx3:ax3.tmps.size=21:=by rw [hax3,size_put];exact zx2
    have tx1_11:tm ax1 11 = .int .i64 (lo+i):=by rw [hax1];exact tm_put_same (by omega)
    have tx2_11:tm ax2 11 = .int .i64 (lo+i):=by rw [hax2,tm_put_other (by omega)];exact tx1_11
    have tx3_11:tm ax3 11 = .int .i64 (lo+i):=by rw [hax3,tm_put_other (by omega)];exact tx2_11
    have tx3_13:tm ax3 13 = .int .i64 hi:=by rw [hax3];exact tm_put_same (by omega)
    obtain ⟨ox3,ix3,dx3,px3,qx3⟩:=infoAt info136_2 (i:=3) rfl
    simp only at dx3 px3 qx3
    rw [wpOpsIn_cons]
    refine opr_value ix3 (wanted_none qx3) (fun c h=>by rw [px3] at h;cases h) (ex_leq px3 tx3_11 tx3_13) ?_
    rw [dx3]
    obtain ⟨ax4,hax4⟩:∃ zz:Act,zz=Act.put ax3 (some 14) (.bool (decide (lo+i<=hi))):=⟨_,rfl⟩
    rw [<- hax4]
    have zx4:ax4.tmps.size=21:=by rw [hax4,size_put];exact zx3
    have tx1_0:tm ax1 0 = .func (.yield l) #[] #[]:=by rw [hax1,tm_put_other (by omega)];exact L.t0
    have tx2_0:tm ax2 0 = .func (.yield l) #[] #[]:=by rw [hax2,tm_put_other (by omega)];exact tx1_0
    have tx3_0:tm ax3 0 = .func (.yield l) #[] #[]:=by rw [hax3,tm_put_other (by omega)];exact tx2_0
    have tx4_0:tm ax4 0 = .func (.yield l) #[] #[]:=by rw [hax4,tm_put_other (by omega)];exact tx3_0
    have tx2_4:tm ax2 4 = .pointer (some ⟨bb,0,none⟩):=by rw [hax2,tm_put_other (by omega)];exact tx1_4
    have tx3_4:tm ax3 4 = .pointer (some ⟨bb,0,none⟩):=by rw [hax3,tm_put_other (by omega)];exact tx2_4
    have tx4_4:tm ax4 4 = .pointer (some ⟨bb,0,none⟩):=by rw [hax4,tm_put_other (by omega)];exact tx3_4
    have tx1_5:tm ax1 5 = .int .i64 (lo+i):=by rw [hax1,tm_put_other (by omega)];exact L.t5
    have tx2_5:tm ax2 5 = .int .i64 (lo+i):=by rw [hax2,tm_put_other (by omega)];exact tx1_5
    have tx3_5:tm ax3 5 = .int .i64 (lo+i):=by rw [hax3,tm_put_other (by omega)];exact tx2_5
    have tx4_5:tm ax4 5 = .int .i64 (lo+i):=by rw [hax4,tm_put_other (by omega)];exact tx3_5
    have dx:ax4.defers=[]:=by rw [hax4,defers_put,hax3,defers_put,hax2,defers_put,hax1,defers_put];exact L.df
    have L4:L136 J W l lo hi bb i ax4 w:=⟨L.ex,L.ge,L.le,L.cell,zx4,tx4_0,tx4_4,tx4_5,dx⟩
    have tx4_14:tm ax4 14 = .bool (decide (lo+i<=hi)):=by rw [hax4];exact tm_put_same (by omega)
    refine wpIn_cond (t:=decide (lo+i<=hi)) tx4_14 ?_
    cases hd:decide (lo+i<=hi) with
    | false =>
      simp only [Bool.false_eq_true,if_false]
      have h1:hi<lo+(i:Int):=Int.not_le.1 (of_decide_eq_false hd)
      have h2:i=cnt:=by omega
      subst h2
      exact wpIn_exit (hQ0 _ _ L4)
    | true =>
    have h1:lo+(i:Int)<=hi:=of_decide_eq_true hd
    have h2:i<cnt:=by omega
    simp only [if_true]
    refine wpIn_skip (wpIn_seq (wpIn_block (wpIn_seq ?_)))
    refine wpIn_region ?_
    rw [show r136_4.size=4 by kernel_rfl]
    show wpOpsIn (fen none) 0 Try.prog r136_4 _ [0,1,2,3] ax4 w
    obtain ⟨oy0,iy0,dy0,py0,qy0⟩:=infoAt info136_4 (i:=0) rfl
    simp only at dy0 py0 qy0
    rw [wpOpsIn_cons]
    refine opr_value iy0 (wanted_none qy0) (fun c h=>by rw [py0] at h;cases h) (ex_move py0) ?_
    rw [dy0,tx4_0]
    obtain ⟨ay1,hay1⟩:∃ zz:Act,zz=Act.put ax4 (some 17) (.func (.yield l) #[] #[]):=⟨_,rfl⟩
    rw [<- hay1]
    have zy1:ay1.tmps.size=21:=by rw [hay1,size_put];exact zx4
    have ty1_5:tm ay1 5 = .int .i64 (lo+i):=by rw [hay1,tm_put_other (by omega)];exact tx4_5
    obtain ⟨oy1,iy1,dy1,py1,qy1⟩:=infoAt info136_4 (i:=1) rfl
    simp only at dy1 py1 qy1
    rw [wpOpsIn_cons]
    refine opr_value iy1 (wanted_none qy1) (fun c h=>by rw [py1] at h;cases h) (ex_move py1) ?_
    rw [dy1,ty1_5]
    obtain ⟨ay2,hay2⟩:∃ zz:Act,zz=Act.put ay1 (some 18) (.int .i64 (lo+i)):=⟨_,rfl⟩
    rw [<- hay2]
    have zy2:ay2.tmps.size=21:=by rw [hay2,size_put];exact zy1
    have ty1_0:tm ay1 0 = .func (.yield l) #[] #[]:=by rw [hay1,tm_put_other (by omega)];exact tx4_0
    have ty2_0:tm ay2 0 = .func (.yield l) #[] #[]:=by rw [hay2,tm_put_other (by omega)];exact ty1_0
    have ty1_4:tm ay1 4 = .pointer (some ⟨bb,0,none⟩):=by rw [hay1,tm_put_other (by omega)];exact tx4_4
    have ty2_4:tm ay2 4 = .pointer (some ⟨bb,0,none⟩):=by rw [hay2,tm_put_other (by omega)];exact ty1_4
    have ty2_5:tm ay2 5 = .int .i64 (lo+i):=by rw [hay2,tm_put_other (by omega)];exact ty1_5
    obtain ⟨M1,hj,hM1,hlt⟩:=L.ex
    obtain ⟨fn,tmps,assign,body,hyr,hrd⟩:=hround _ i M1 w (.int .i64 (lo+i)) (lo+i) hj (exactL_get hi cnt lo i h2) ⟨_,rfl,rfl⟩
    have hrd:RoundIn Fence.wide 0 Try.prog l fn tmps assign body w _:=⟨hrd.1,fun c cs _=>hrd.2 c cs (room_wide _)⟩
    obtain ⟨oy2,iy2,dy2,py2,qy2⟩:=infoAt info136_4 (i:=2) rfl
    simp only at dy2 py2 qy2
    rw [wpOpsIn_cons]
    have ty1_17:tm ay1 17 = .func (.yield l) #[] #[]:=by rw [hay1];exact tm_put_same (by omega)
    have ty2_17:tm ay2 17 = .func (.yield l) #[] #[]:=by rw [hay2,tm_put_other (by omega)];exact ty1_17
    have ty2_18:tm ay2 18 = .int .i64 (lo+i):=by rw [hay2];exact tm_put_same (by omega)
    refine opn_round iy2 (wanted_none qy2) (fun c h=>by rw [py2] at h;cases h) (ex_yieldI py2 ty2_17 ty2_18 hyr) (hrd.mono ?_)
    rintro e w2 he
    have hT:=hcell
    have keepc:∀ {M2:Mut},RoundKeeps R M1 w M2 w2->w2.heap[bb]? = some (.cells #[.int .i64 lo,.int .i64 hi] T (0,0))/\(∀ o,¬ M2 bb o)/\(∀ b o,M2 b o->b<w2.heap.size)/\W.heap.size<=w2.heap.size:=fun hk=>by
      have hbl:=(Array.getElem?_eq_some_iff.1 hcell).1
      refine ⟨(hk.same bb hbl hM1 fun h=>by have:=hR bb h;have:=L.ge;omega).trans hcell,fun o h=>?_,hk.lt,Nat.le_trans L.le hk.size⟩
      rcases hk.new bb o h with ⟨o',h'⟩|h'
      . exact hM1 o' h'
      . omega
    have dy:ay2.defers=[]:=by rw [hay2,defers_put,hay1,defers_put];exact dx
    rcases he with ⟨rfl,M2,j1,j2,j3⟩|⟨rfl,j1,M2,j2⟩
    . refine ⟨_,rfl,?_⟩
      rw [dy2]
      obtain ⟨ag1,hag1⟩:∃ zz:Act,zz=Act.put ay2 (some 19) (.bool true):=⟨_,rfl⟩
      rw [<- hag1]
      have zg1:ag1.tmps.size=21:=by rw [hag1,size_put];exact zy2
      have tg1_19:tm ag1 19 = .bool true:=by rw [hag1];exact tm_put_same (by omega)
      obtain ⟨og3,ig3,dg3,pg3,qg3⟩:=infoAt info136_4 (i:=3) rfl
      simp only at dg3 pg3 qg3
      rw [wpOpsIn_cons]
      refine opr_value ig3 (wanted_none qg3) (fun c h=>by rw [pg3] at h;cases h) (ex_not pg3 tg1_19) ?_
      rw [dg3]
      obtain ⟨ag2,hag2⟩:∃ zz:Act,zz=Act.put ag1 (some 20) (.bool (!true)):=⟨_,rfl⟩
      rw [<- hag2]
      have zg2:ag2.tmps.size=21:=by rw [hag2,size_put];exact zg1
      have tg1_0:tm ag1 0 = .func (.yield l) #[] #[]:=by rw [hag1,tm_put_other (by omega)];exact ty2_0
      have tg2_0:tm ag2 0 = .func (.yield l) #[] #[]:=by rw [hag2,tm_put_other (by omega)];exact tg1_0
      have tg1_4:tm ag1 4 = .pointer (some ⟨bb,0,none⟩):=by rw [hag1,tm_put_other (by omega)];exact ty2_4
      have tg2_4:tm ag2 4 = .pointer (some ⟨bb,0,none⟩):=by rw [hag2,tm_put_other (by omega)];exact tg1_4
      have tg1_5:tm ag1 5 = .int .i64 (lo+i):=by rw [hag1,tm_put_other (by omega)];exact ty2_5
      have tg2_5:tm ag2 5 = .int .i64 (lo+i):=by rw [hag2,tm_put_other (by omega)];exact tg1_5
      have tg2_20:tm ag2 20 = .bool (!true):=by rw [hag2];exact tm_put_same (by omega)
      refine wpIn_cond (t:=false) tg2_20 ?_
      simp only [Bool.false_eq_true,if_false]
      refine wpIn_skip ?_
      have dg:ag2.defers=[]:=by rw [hag2,defers_put,hag1,defers_put];exact dy
      show Code.wpIn (fen none) 0 Try.prog (.region 3 r136_3 false) _ ag2 w2
      refine wpIn_region ?_
      rw [show r136_3.size=3 by kernel_rfl]
      show wpOpsIn (fen none) 0 Try.prog r136_3 _ [0,1,2] ag2 w2
      obtain ⟨oh0,ih0,dh0,ph0,qh0⟩:=infoAt info136_3 (i:=0) rfl
      simp only at dh0 ph0 qh0
      rw [wpOpsIn_cons]
      refine opr_value ih0 (wanted_none qh0) (fun c h=>by rw [ph0] at h;cases h) (ex_move ph0) ?_
      rw [dh0,tg2_5]
      obtain ⟨ah1,hah1⟩:∃ zz:Act,zz=Act.put ag2 (some 15) (.int .i64 (lo+i)):=⟨_,rfl⟩
      rw [<- hah1]
      have zh1:ah1.tmps.size=21:=by rw [hah1,size_put];exact zg2
      have th1_15:tm ah1 15 = .int .i64 (lo+i):=by rw [hah1];exact tm_put_same (by omega)
      obtain ⟨oh1,ih1,dh1,ph1,qh1⟩:=infoAt info136_3 (i:=1) rfl
      simp only at dh1 ph1 qh1
      rw [wpOpsIn_cons]
      refine opr_value ih1 (wanted_none qh1) (fun c h=>by rw [ph1] at h;cases h) (ex_add1 ph1 th1_15) ?_
      rw [dh1]
      obtain ⟨ah2,hah2⟩:∃ zz:Act,zz=Act.put ah1 (some 16) (.int .i64 (IntKind.i64.wrap (lo+i+1))):=⟨_,rfl⟩
      rw [<- hah2]
      have zh2:ah2.tmps.size=21:=by rw [hah2,size_put];exact zh1
      have th2_16:tm ah2 16 = .int .i64 (IntKind.i64.wrap (lo+i+1)):=by rw [hah2];exact tm_put_same (by omega)
      obtain ⟨oh2,ih2,dh2,ph2,qh2⟩:=infoAt info136_3 (i:=2) rfl
      simp only at dh2 ph2 qh2
      rw [wpOpsIn_cons]
      refine opr_value ih2 (wanted_none qh2) (fun c h=>by rw [ph2] at h;cases h) (ex_assign ph2) ?_
      rw [dh2,th2_16]
      obtain ⟨ah3,hah3⟩:∃ zz:Act,zz=Act.put ah2 (some 5) (.int .i64 (IntKind.i64.wrap (lo+i+1))):=⟨_,rfl⟩
      rw [<- hah3]
      have zh3:ah3.tmps.size=21:=by rw [hah3,size_put];exact zh2
      have th1_0:tm ah1 0 = .func (.yield l) #[] #[]:=by rw [hah1,tm_put_other (by omega)];exact tg2_0
      have th2_0:tm ah2 0 = .func (.yield l) #[] #[]:=by rw [hah2,tm_put_other (by omega)];exact th1_0
      have th3_0:tm ah3 0 = .func (.yield l) #[] #[]:=by rw [hah3,tm_put_other (by omega)];exact th2_0
      have th1_4:tm ah1 4 = .pointer (some ⟨bb,0,none⟩):=by rw [hah1,tm_put_other (by omega)];exact tg2_4
      have th2_4:tm ah2 4 = .pointer (some ⟨bb,0,none⟩):=by rw [hah2,tm_put_other (by omega)];exact th1_4
      have th3_4:tm ah3 4 = .pointer (some ⟨bb,0,none⟩):=by rw [hah3,tm_put_other (by omega)];exact th2_4
      have th3_5:tm ah3 5 = .int .i64 (IntKind.i64.wrap (lo+i+1)):=by rw [hah3];exact tm_put_same (by omega)
      obtain ⟨g1,g2,g3,g4⟩:=keepc j2
      refine ih (i+1) _ w2 (by omega) (by omega) ⟨⟨M2,j1,g2,g3⟩,L.ge,g4,⟨T,g1⟩,zh3,th3_0,th3_4,?_,by rw [hah3,defers_put,hah2,defers_put,hah1,defers_put];exact dg⟩
      rw [th3_5,wr (by omega) (by omega)]
      congr 1
      push_cast
      omega
    . refine ⟨_,rfl,?_⟩
      rw [dy2]
      obtain ⟨ak1,hak1⟩:∃ zz:Act,zz=Act.put ay2 (some 19) (.bool false):=⟨_,rfl⟩
      rw [<- hak1]
      have zk1:ak1.tmps.size=21:=by rw [hak1,size_put];exact zy2
      have tk1_19:tm ak1 19 = .bool false:=by rw [hak1];exact tm_put_same (by omega)
      obtain ⟨ok3,ik3,dk3,pk3,qk3⟩:=infoAt info136_4 (i:=3) rfl
      simp only at dk3 pk3 qk3
      rw [wpOpsIn_cons]
      refine opr_value ik3 (wanted_none qk3) (fun c h=>by rw [pk3] at h;cases h) (ex_not pk3 tk1_19) ?_
      rw [dk3]
      obtain ⟨ak2,hak2⟩:∃ zz:Act,zz=Act.put ak1 (some 20) (.bool (!false)):=⟨_,rfl⟩
      rw [<- hak2]
      have zk2:ak2.tmps.size=21:=by rw [hak2,size_put];exact zk1
      have tk2_20:tm ak2 20 = .bool (!false):=by rw [hak2];exact tm_put_same (by omega)
      refine wpIn_cond (t:=true) tk2_20 ?_
      simp only [if_true]
      refine wpIn_ret (hQr _ _ j1 ?_ (Nat.le_trans L.le j2.size))
      rw [hak2,defers_put,hak1,defers_put];exact dy
theorem iter136 {M:Mut} {w:World} {pt pr:Value} {tab:TAB} {row:Int} (hpt:RepV M w (.ptr TABTY) pt tab) (hpr:RepV M w (.ptr (.int .i64)) pr row) {lo hi:Int} {cnt:Nat} (h137:f137 (tab,(row,())) = .ret (lo,hi,())) (hcnt:lo+cnt=hi+1) (hlo : -1000000000<lo) (hhi:hi<1000000000) (hfu:cnt<fuel) :
    IterP Try.prog (.func (.func 77) #[] #[pt,pr]) (.int .i64) (exactL lo hi cnt) M w:=by
  refine ⟨77,#[],#[pt,pr],rfl,by kernel_rfl,fun nn l R J Jx W N0 hSt hsz hInv hN0 hR hJI hJs hJxs hround hJ0=>?_⟩
  have hpt':RepV N0 W (.ptr TABTY) pt tab:=RepV.mono hSt hpt
  have hpr':RepV N0 W (.ptr (.int .i64)) pr row:=RepV.mono hSt hpr
  refine callsIn_wide.1 (callsIn_of_wp_marks (n:=0) Try.func77 some136 trivial ?_)
  show (bodyOf Try.f77).wpIn (fen none) 0 Try.prog _ { tmps := #[.func (.yield l) #[] #[],pt,pr]++Array.replicate (21 - 3) undef,defers:=[] } W
  obtain ⟨a0,ha0⟩:∃ a0:Act,a0={ tmps := #[.func (.yield l) #[] #[],pt,pr]++Array.replicate (21 - 3) undef,defers:=[] }:=⟨_,rfl⟩
  rw [<- ha0,body136]
  have z0:a0.tmps.size=21:=by rw [ha0];simp
  have t0:tm a0 0 = .func (.yield l) #[] #[]:=by rw [ha0];simp [tm]
  have t1:tm a0 1=pt:=by rw [ha0];simp [tm]
  have t2:tm a0 2=pr:=by rw [ha0];simp [tm]
  have hd0:a0.defers=[]:=by rw [ha0]
  refine wpIn_seq ?_
  refine wpIn_region ?_
  rw [show r136_0.size=5 by kernel_rfl]
  show wpOpsIn (fen none) 0 Try.prog r136_0 _ [0,1,2,3,4] a0 W
  obtain ⟨ox0,ix0,dx0,px0,qx0⟩:=infoAt info136_0 (i:=0) rfl
  simp only at dx0 px0 qx0
  rw [wpOpsIn_cons]
  obtain ⟨u6,hu6,hr6⟩:=ex_loadP (a:=a0) (w:=W) (t:=TABTY) (by kernel_rfl) px0 t1 hpt'
  refine opr_value ix0 (wanted_none qx0) (fun c h=>by rw [px0] at h;cases h) hr6 ?_
  rw [dx0]
  obtain ⟨ax1,hax1⟩:∃ zz:Act,zz=Act.put a0 (some 6) (u6):=⟨_,rfl⟩
  rw [<- hax1]
  have zx1:ax1.tmps.size=21:=by rw [hax1,size_put];exact z0
  have tx1_2:tm ax1 2=pr:=by rw [hax1,tm_put_other (by omega)];exact t2
  obtain ⟨ox1,ix1,dx1,px1,qx1⟩:=infoAt info136_0 (i:=1) rfl
  simp only at dx1 px1 qx1
  rw [wpOpsIn_cons]
  obtain ⟨u7,hu7,hr7⟩:=ex_loadP (a:=ax1) (w:=W) (t:=.int .i64) (by kernel_rfl) px1 tx1_2 hpr'
  refine opr_value ix1 (wanted_none qx1) (fun c h=>by rw [px1] at h;cases h) hr7 ?_
  rw [dx1]
  obtain ⟨ax2,hax2⟩:∃ zz:Act,zz=Act.put ax1 (some 7) (u7):=⟨_,rfl⟩
  rw [<- hax2]
  have zx2:ax2.tmps.size=21:=by rw [hax2,size_put];exact zx1
  have tx1_6:tm ax1 6=u6:=by rw [hax1];exact tm_put_same (by omega)
  have tx2_6:tm ax2 6=u6:=by rw [hax2,tm_put_other (by omega)];exact tx1_6
  have tx2_7:tm ax2 7=u7:=by rw [hax2];exact tm_put_same (by omega)
  obtain ⟨ox2,ix2,dx2,px2,qx2⟩:=infoAt info136_0 (i:=2) rfl
  simp only at dx2 px2 qx2
  rw [wpOpsIn_cons]
  have hcall:=c137 (tab,(row,())) N0 W #[u6,u7] hInv ⟨_,_,rfl,hu6,_,_,rfl,hu7,rfl⟩ hN0
  have hcall:Calls Try.prog 78 #[u6,u7] W fun e w'=>∃ v,e = .returned v/\Below W.heap.size W w'/\ResOK N0 W w' false false (.prod (.int .i64) (.prod (.int .i64) .unit)) v (lo,hi,()):=by
    have e:sp137.f (tab,(row,())) = .ret (lo,hi,()):=h137
    rw [e] at hcall
    exact hcall
  refine opr_enter (ro:=none) ix2 (wanted_none qx2) (fun c h=>by rw [px2] at h;cases h) (ex_call137 px2 tx2_6 tx2_7) (hcall.mono ?_)
  rintro e w1 ⟨v8,rfl,hbel,M',_,_,hs8,_⟩
  refine ⟨_,rfl,?_⟩
  have hv8:v8=pairV lo hi:=slot_pair (show SlotOK M' w1 [] ⟨#[],[]⟩ v8 (.d (.prod (.int .i64) (.prod (.int .i64) .unit)) (lo,hi,())) from hs8)
  rw [dx2]
  obtain ⟨ax3,hax3⟩:∃ zz:Act,zz=Act.put ax2 (some 8) (v8):=⟨_,rfl⟩
  rw [<- hax3]
  have zx3:ax3.tmps.size=21:=by rw [hax3,size_put];exact zx2
  obtain ⟨ox3,ix3,dx3,px3,qx3⟩:=infoAt info136_0 (i:=3) rfl
  simp only at dx3 px3 qx3
  rw [wpOpsIn_cons]
  refine opr_value ix3 (wanted_none qx3) (fun c h=>by rw [px3] at h;cases h) (ex_alloc45 px3) ?_
  rw [dx3]
  obtain ⟨ax4,hax4⟩:∃ zz:Act,zz=Act.put ax3 (some 4) (.pointer (some ⟨w1.heap.size,0,none⟩)):=⟨_,rfl⟩
  rw [<- hax4]
  have zx4:ax4.tmps.size=21:=by rw [hax4,size_put];exact zx3
  obtain ⟨w2,hw2⟩:∃ b:World,b=w1.alloc (.cells #[.int .i64 0,.int .i64 0] 45):=⟨_,rfl⟩
  rw [<- hw2]
  have c2:w2.heap[w1.heap.size]? = some (.cells #[.int .i64 0,.int .i64 0] 45 (0,0)):=by rw [hw2];exact heap_alloc_new w1 _
  have tx4_4:tm ax4 4 = .pointer (some ⟨w1.heap.size,0,none⟩):=by rw [hax4];exact tm_put_same (by omega)
  have tx3_8:tm ax3 8=v8:=by rw [hax3];exact tm_put_same (by omega)
  have tx4_8:tm ax4 8=v8:=by rw [hax4,tm_put_other (by omega)];exact tx3_8
  obtain ⟨ox4,ix4,dx4,px4,qx4⟩:=infoAt info136_0 (i:=4) rfl
  simp only at dx4 px4 qx4
  rw [wpOpsIn_cons]
  refine opr_skipped ix4 (wanted_none qx4) (fun c h=>by rw [px4] at h;cases h) (ex_store45 (x:=lo) (y:=hi) px4 tx4_4 (tx4_8.trans hv8) c2) ?_
  rw [dx4,put_none]
  obtain ⟨w3,hw3⟩:∃ b:World,b=w2.setRow w1.heap.size #[.int .i64 lo,.int .i64 hi]:=⟨_,rfl⟩
  rw [<- hw3]
  have c3:w3.heap[w1.heap.size]? = some (.cells #[.int .i64 lo,.int .i64 hi] 45 (0,0)):=by rw [hw3];exact setRow_same c2
  have l2:w2.heap.size=w1.heap.size+1:=by rw [hw2];simp
  have l3:w3.heap.size=w1.heap.size+1:=by rw [hw3,setRow_size];exact l2
  have hsz1:=hbel.size
  have hold:∀ k,k<w1.heap.size->w3.heap[k]? = w1.heap[k]? := fun k hk=>by rw [hw3,setRow_other (by omega),hw2,heap_alloc_old w1 _ hk]
  have hst3:IterStepB (fun _=>False) W W w3:=by
    refine ⟨⟨?_,?_,?_,by omega,fun k hk=>(hold k (by have:=hk.1;omega)).trans (hbel.block k hk.1)⟩,fun k ob _ e1 e2=>?_⟩
    . rw [hw3,hw2];show w1.os=W.os;exact hbel.os
    . rw [hw3,hw2];show w1.tape=W.tape;exact hbel.tape
    . rw [hw3,hw2];show w1.output=W.output;exact hbel.output
    . have hk:=(Array.getElem?_eq_some_iff.1 e1).1
      exact (hold k (by omega)).trans ((hbel.block k hk).trans e1)
  have hj0:=hJ0 (fun _=>False) w3 hst3 fun b hb=>hb.elim
  have tx1_0:tm ax1 0 = .func (.yield l) #[] #[]:=by rw [hax1,tm_put_other (by omega)];exact t0
  have tx2_0:tm ax2 0 = .func (.yield l) #[] #[]:=by rw [hax2,tm_put_other (by omega)];exact tx1_0
  have tx3_0:tm ax3 0 = .func (.yield l) #[] #[]:=by rw [hax3,tm_put_other (by omega)];exact tx2_0
  have tx4_0:tm ax4 0 = .func (.yield l) #[] #[]:=by rw [hax4,tm_put_other (by omega)];exact tx3_0
  have dz:ax4.defers=[]:=by rw [hax4,defers_put,hax3,defers_put,hax2,defers_put,hax1,defers_put,hd0]
  refine wpIn_seq ?_
  refine wpIn_region ?_
  rw [show r136_1.size=3 by kernel_rfl]
  show wpOpsIn (fen none) 0 Try.prog r136_1 _ [0,1,2] ax4 w3
  obtain ⟨oy0,iy0,dy0,py0,qy0⟩:=infoAt info136_1 (i:=0) rfl
  simp only at dy0 py0 qy0
  rw [wpOpsIn_cons]
  refine opr_value iy0 (wanted_none qy0) (fun c h=>by rw [py0] at h;cases h) (ex_field45 (.inl rfl) py0 tx4_4) ?_
  rw [dy0]
  obtain ⟨ay1,hay1⟩:∃ zz:Act,zz=Act.put ax4 (some 9) (.pointer (some ⟨w1.heap.size,0+0,none⟩)):=⟨_,rfl⟩
  rw [<- hay1]
  have zy1:ay1.tmps.size=21:=by rw [hay1,size_put];exact zx4
  have ty1_9:tm ay1 9 = .pointer (some ⟨w1.heap.size,0+0,none⟩):=by rw [hay1];exact tm_put_same (by omega)
  obtain ⟨oy1,iy1,dy1,py1,qy1⟩:=infoAt info136_1 (i:=1) rfl
  simp only at dy1 py1 qy1
  rw [wpOpsIn_cons]
  refine opr_value iy1 (wanted_none qy1) (fun c h=>by rw [py1] at h;cases h) (ex_loadAt (v:=.int .i64 lo) (T:=3) (t:=.int .i64) (by kernel_rfl) rfl rfl py1 (b:=w1.heap.size) (j:=0+0) ty1_9 c3 rfl) ?_
  rw [dy1]
  obtain ⟨ay2,hay2⟩:∃ zz:Act,zz=Act.put ay1 (some 10) (.int .i64 lo):=⟨_,rfl⟩
  rw [<- hay2]
  have zy2:ay2.tmps.size=21:=by rw [hay2,size_put];exact zy1
  have ty2_10:tm ay2 10 = .int .i64 lo:=by rw [hay2];exact tm_put_same (by omega)
  obtain ⟨oy2,iy2,dy2,py2,qy2⟩:=infoAt info136_1 (i:=2) rfl
  simp only at dy2 py2 qy2
  rw [wpOpsIn_cons]
  refine opr_value iy2 (wanted_none qy2) (fun c h=>by rw [py2] at h;cases h) (ex_assign py2) ?_
  rw [dy2,ty2_10]
  obtain ⟨ay3,hay3⟩:∃ zz:Act,zz=Act.put ay2 (some 5) (.int .i64 lo):=⟨_,rfl⟩
  rw [<- hay3]
  have zy3:ay3.tmps.size=21:=by rw [hay3,size_put];exact zy2
  have ty1_0:tm ay1 0 = .func (.yield l) #[] #[]:=by rw [hay1,tm_put_other (by omega)];exact tx4_0
  have ty2_0:tm ay2 0 = .func (.yield l) #[] #[]:=by rw [hay2,tm_put_other (by omega)];exact ty1_0
  have ty3_0:tm ay3 0 = .func (.yield l) #[] #[]:=by rw [hay3,tm_put_other (by omega)];exact ty2_0
  have ty1_4:tm ay1 4 = .pointer (some ⟨w1.heap.size,0,none⟩):=by rw [hay1,tm_put_other (by omega)];exact tx4_4
  have ty2_4:tm ay2 4 = .pointer (some ⟨w1.heap.size,0,none⟩):=by rw [hay2,tm_put_other (by omega)];exact ty1_4
  have ty3_4:tm ay3 4 = .pointer (some ⟨w1.heap.size,0,none⟩):=by rw [hay3,tm_put_other (by omega)];exact ty2_4
  have ty3_5:tm ay3 5 = .int .i64 lo:=by rw [hay3];exact tm_put_same (by omega)
  have dy:ay3.defers=[]:=by rw [hay3,defers_put,hay2,defers_put,hay1,defers_put];exact dz
  have L0:L136 J W l lo hi w1.heap.size 0 ay3 w3:=⟨⟨_,hj0,fun o h=>h.elim (fun h=>by have:=hN0 _ _ h;omega) id,fun b o h=>h.elim (fun h=>by have:=hN0 _ _ h;omega) False.elim⟩,by omega,by omega,⟨_,c3⟩,zy3,ty3_0,ty3_4,by rw [ty3_5];simp,dy⟩
  refine wpIn_block (wpIn_loop_rounds fuel (loop136 hcnt hlo hhi (fun b hb=>(hR b hb).1) hround (fun a w L=>?_) (fun a w hx hd hle=>?_) fuel 0 ay3 w3 (by omega) (by omega) L0))
  . obtain ⟨M1,hj,_,_⟩:=L.ex
    show LeavesInM (fen none) 0 Try.prog Try.f77 a.tmps _ a.defers .returning w
    rw [L.df]
    refine leave_marks (q:=fun _=>False) (by simp) trivial fun w2 hm=>?_
    refine ⟨.tuple #[],results136,⟨_,rfl⟩,.inl ⟨fun _=>False,M1,?_⟩⟩
    show J (fun _=>False) (List.length (α:=Int) (exactL lo hi cnt)) M1 w2
    rw [exactL_len]
    exact hJs _ _ _ _ _ hj ⟨⟨hm.os,hm.tape,hm.output,hm.size,fun k hk=>hm.block k ⟨by have:=hk.1;have:=L.le;omega,fun h=>h.elim⟩⟩,fun k ob _ e1 _=>(hm.block k ⟨(Array.getElem?_eq_some_iff.1 e1).1,fun h=>h.elim⟩).trans e1⟩
  . show LeavesInM (fen none) 0 Try.prog Try.f77 a.tmps _ a.defers .returning w
    rw [hd]
    refine leave_marks (q:=fun _=>False) (by simp) trivial fun w2 hm=>?_
    exact ⟨.tuple #[],results136,⟨_,rfl⟩,.inr ⟨fun _=>False,hJxs _ _ _ hx ⟨⟨hm.os,hm.tape,hm.output,hm.size,fun k hk=>hm.block k ⟨by have:=hk.1;omega,fun h=>h.elim⟩⟩,fun k ob _ e1 _=>(hm.block k ⟨(Array.getElem?_eq_some_iff.1 e1).1,fun h=>h.elim⟩).trans e1⟩⟩⟩
end Go.V
namespace Go.V
open Go.Proofs
open Go.RowKit (Below)
structure SS93 where
  b5:Nat
  mO:Nat
  gO:GF
  nO:Nat
  nx:Option (Nat×GF×Nat)
  it:Option (Nat×(Int->Bool)×Nat)
structure I93 (s:SS93) (M:Mut) (w:World):Prop where
  h5:w.heap[s.b5]? = some (.cells #[.map (some s.mO)] 95 (0,0))
  mo:MapG s.gO s.nO s.mO w
  nx:∀ x,s.nx=some x->MapG x.2.1 x.2.2 x.1 w/\x.1≠s.mO
  it:∀ x,s.it=some x->RangeG s.gO x.2.1 x.2.2 s.nO s.mO x.1 w
def hb93 (s:SS93) (b:Nat):Prop:=b=s.b5\/b=s.mO\/(∃ x,s.nx=some x/\b=x.1)\/∃ x,s.it=some x/\b=x.1
theorem I93.keep {s:SS93} {M M':Mut} {w w':World} (h:I93 s M w) (hk:∀ b,hb93 s b->w'.heap[b]? = w.heap[b]?):I93 s M' w' :=
  ⟨(hk _ (.inl rfl)).trans h.h5,h.mo.keep (hk _ (.inr (.inl rfl))),fun x hx=>⟨(h.nx x hx).1.keep (hk _ (.inr (.inr (.inl ⟨x,hx,rfl⟩)))),(h.nx x hx).2⟩,fun x hx=>(h.it x hx).keep (hk _ (.inr (.inl rfl))) (hk _ (.inr (.inr (.inr ⟨x,hx,rfl⟩))))⟩
theorem I93.at_ {s:SS93} {M:Mut} {w:World} (h:I93 s M w) {b:Nat} (hb:hb93 s b):(b=s.b5/\∃ C E,w.heap[b]? = some (.cells C E (0,0)))\/(∃ es c,w.heap[b]? = some (.map es c))\/(∃ x,s.it=some x/\b=x.1)/\∃ c d e f,w.heap[b]? = some (.mapIter c d e f):=by
  rcases hb with rfl|rfl|⟨x,hx,rfl⟩|⟨x,hx,rfl⟩
  . exact .inl ⟨rfl,_,_,h.h5⟩
  . exact .inr (.inl h.mo.block)
  . exact .inr (.inl (h.nx x hx).1.block)
  . exact .inr (.inr ⟨⟨x,hx,rfl⟩,(h.it x hx).iter⟩)
def H93:Hole where
  σ:=SS93
  hb s _ b:=hb93 s b
  I:=I93
  keep s M w M' w' h _ hk:=h.keep hk
  same s M w w' _ _ b h:=h
  lt s M w b h hb:=by
    rcases h.at_ hb with ⟨_,_,_,e⟩|⟨_,_,e⟩|⟨_,_,_,_,_,e⟩<;>exact (Array.getElem?_eq_some_iff.1 e).1
  nd s M w b c h hb e:=by
    rcases h.at_ hb with ⟨_,_,_,e'⟩|⟨_,_,e'⟩|⟨_,_,_,_,_,e'⟩<;>(rw [e'] at e;cases e)
noncomputable def assign93:Code:=match codeAt [1,1,0,1,0,0,1,0,0,1,0,1,0] (bodyOf Try.f45) with|some (.rangeFunc _ _ c _)=>c|_=>.skip
noncomputable def round93:Code:=match codeAt [1,1,0,1,0,0,1,0,0,1,0,1,0] (bodyOf Try.f45) with|some (.rangeFunc _ _ _ b)=>b|_=>.skip
noncomputable def r93_8:Array Oper:=regAt 8 round93
noncomputable def r93_9:Array Oper:=regAt 9 round93
theorem info93_9:r93_9.toList.map opInfo=[(some 35,.load 95 (.tmp 5),none),
  (some 36,.range 95 (.tmp 35),none)]:=by kernel_rfl
noncomputable def r93_10:Array Oper:=regAt 10 round93
theorem info93_10:r93_10.toList.map opInfo=[(some 37,.next (.tmp 36) false,none),
  (some 38,.extract (.tmp 37) 0,none)]:=by kernel_rfl
noncomputable def r93_11:Array Oper:=regAt 11 round93
theorem info93_11:r93_11.toList.map opInfo=[(some 39,.entry (.tmp 36),none),
  (some 40,.extract (.tmp 39) 0,none),
  (some 41,.extract (.tmp 39) 1,none),
  (some 11,.alloc 45,none),
  (some 10,.assign (.tmp 40),none),
  (none,.store 45 (.tmp 11) (.tmp 41),none)]:=by kernel_rfl
noncomputable def r93_12:Array Oper:=regAt 12 round93
noncomputable def r93_13:Array Oper:=regAt 13 round93
theorem info93_13:r93_13.toList.map opInfo=[(some 52,.load 95 (.tmp 7),none),
  (some 53,.move (.tmp 10),none),
  (some 54,.move (.tmp 8),none),
  (some 55,.binOp .add 3 (.tmp 53) (.tmp 54) 3,none),
  (some 56,.lookup 95 (.tmp 52) (.tmp 55) true,none),
  (some 51,.move (.tmp 56),none),
  (some 57,.extract (.tmp 51) 0,none),
  (some 58,.extract (.tmp 51) 1,none),
  (some 13,.alloc 45,none),
  (none,.store 45 (.tmp 13) (.tmp 57),none),
  (some 14,.assign (.tmp 58),none)]:=by kernel_rfl
noncomputable def r93_14:Array Oper:=regAt 14 round93
noncomputable def r93_15:Array Oper:=regAt 15 round93
noncomputable def r93_16:Array Oper:=regAt 16 round93
theorem info93_16:r93_16.toList.map opInfo=[(some 71,.load 95 (.tmp 7),none),
  (some 72,.move (.tmp 10),none),
  (some 73,.move (.tmp 8),none),
  (some 74,.binOp .add 3 (.tmp 72) (.tmp 73) 3,none),
  (some 75,.load 45 (.tmp 12),none),
  (none,.mapUpdate 95 (.tmp 71) (.tmp 74) (.tmp 75),none)]:=by kernel_rfl
noncomputable def C93p:Code:=.seq (.region 12 r93_12 false) (.seq (.seq (.region 13 r93_13 false) (.seq (.region 14 r93_14 false) (.cond (.tmp 59) (.region 15 r93_15 false) .skip))) (.region 16 r93_16 false))
noncomputable def st93 (b5 mN r:Nat) (tab:TAB) (row n f key:Int) (sp:Int×Int×Unit):St:=[.und,.und,.ref (.prod (.prod (.int .i64) (.prod (.int .i64) (.prod (.list (.int .i64)) (.prod (.list (.int .i64)) .unit)))) (.prod (.int .i64) .unit)) tab,.und,.und,.d .raw (ptrV b5),.d (.int .i64) row,.ref .raw (.map (some mN)),.d (.int .i64) n,.d (.int .i64) f,.d (.int .i64) key,.ref (.prod (.int .i64) (.prod (.int .i64) .unit)) sp,.und,.und,.und,.und,.und,.und,.und,.und,.und,.und,.und,.und,.und,.und,.und,.und,.und,.und,.und,.und,.und,.und,.und,.und,.d .raw (ptrV r),.und,.und,.und,.und,.und,.und,.und,.und,.und,.und,.und,.und,.und,.und,.und,.und,.und,.und,.und,.und,.und,.und,.und,.und,.und,.und,.und,.und,.und,.und,.und,.und,.und,.und,.und,.und,.und,.und,.und,.und,.und]
noncomputable def k93 (b5 mN r:Nat) (tab:TAB) (row n f:Int) (x:X) (s:H93.σ) (st:St):Out (SS93×Unit) :=
  match x with
  | .normal=>(match get st 2,get st 5,get st 6,get st 7,get st 8,get st 9,get st 36 with
    | .ref (.prod (.prod (.int .i64) (.prod (.int .i64) (.prod (.list (.int .i64)) (.prod (.list (.int .i64)) .unit)))) (.prod (.int .i64) .unit)) tab',.d .raw v5,.d (.int .i64) row',.ref .raw v7,.d (.int .i64) n',.d (.int .i64) f',.d .raw v36 =>
      bif st.length==78 then bif same tab' tab && (isV v5 (ptrV b5) && (same row' row && (isV v7 (.map (some mN)) && (same n' n && (same f' f && isV v36 (ptrV r)))))) then .ret (s,()) else .fail else .fail
    | _,_,_,_,_,_,_=>.fail)
  | _=>.fail
noncomputable def look93 (s:H93.σ) (st:St):Bool×Outs H93 :=
  match (show SS93 from s).nx,get st 52,get st 55 with
  | some (mN,gN,_),.d .raw v,.d (.int .i64) k=>(!isBox (get st 56) && (isV v (.map (some mN)) && rng k),.some [(s,st.set 56 (.tup (.prod (.prod (.int .i64) (.prod (.int .i64) .unit)) (.prod .bool .unit)) ((((gN k).getD (0,0)).1,((gN k).getD (0,0)).2,()),(gN k).isSome,())))])
  | _,_,_=>(false,.some [])
noncomputable def put93 (s:H93.σ) (st:St):Bool×Outs H93 :=
  match (show SS93 from s).nx,get st 71,get st 74,get st 75 with
  | some (mN,gN,nN),.d .raw v,.d (.int .i64) k,.d (.prod (.int .i64) (.prod (.int .i64) .unit)) p=>(isV v (.map (some mN)) && (rng k && decide (nN<1000000)),.some [(({ (show SS93 from s) with nx:=some (mN,upd gN k (p.1,p.2.1),nN+1) }:SS93),st)])
  | _,_,_,_=>(false,.some [])
noncomputable def D93_13:Nat->Option (Nat×(H93.σ->St->Bool×Outs H93)):=fun j=>if j=4 then some (0,look93) else none
noncomputable def D93_16:Nat->Option (Nat×(H93.σ->St->Bool×Outs H93)):=fun j=>if j=5 then some (0,put93) else none
noncomputable def T93p:List (List Nat×HdH H93):=[([1,0,0],⟨fun {ρ} k s st=>regQ Try.prog H93 (fun _=>phi []) [] D93_13 13 r93_13 k s st⟩),([1,1],⟨fun {ρ} k s st=>regQ Try.prog H93 (fun _=>phi []) [] D93_16 16 r93_16 k s st⟩)]
noncomputable def S93 (b5 mO:Nat) (gO:GF) (nO mN:Nat) (gN:GF) (nN:Nat) (it:Option (Nat×(Int->Bool)×Nat)) (r:Nat) (tab:TAB) (row n f key:Int) (sp:Int×Int×Unit):Out (SS93×Unit) :=
  bif (isV (.map (some mN)) (.map (some mN)) && rng (IntKind.i64.wrap (key+n))) then
    match ((gN (IntKind.i64.wrap (key+n))).isSome) with
    | true =>
      bif (isV (.map (some mN)) (.map (some mN)) && (rng (IntKind.i64.wrap (key+n)) && decide (nN<1000000))) then
        bif (same tab tab && (isV (ptrV b5) (ptrV b5) && (same row row && (isV (.map (some mN)) (.map (some mN)) && (same n n && (same f f && isV (ptrV r) (ptrV r))))))) then
          .ret (((⟨b5,mO,gO,nO,some (mN,upd gN (IntKind.i64.wrap (key+n)) ((if (((gN (IntKind.i64.wrap (key+n))).getD (0,0)).1)<(IntKind.i64.wrap (sp.1+f)) then (((gN (IntKind.i64.wrap (key+n))).getD (0,0)).1) else (IntKind.i64.wrap (sp.1+f))),(if (((gN (IntKind.i64.wrap (key+n))).getD (0,0)).2) > (IntKind.i64.wrap (sp.2.1+f)) then (((gN (IntKind.i64.wrap (key+n))).getD (0,0)).2) else (IntKind.i64.wrap (sp.2.1+f)))),nN+1),it⟩:SS93)),())
        else .fail
      else .fail
    | false =>
      bif (isV (.map (some mN)) (.map (some mN)) && (rng (IntKind.i64.wrap (key+n)) && decide (nN<1000000))) then
        bif (same tab tab && (isV (ptrV b5) (ptrV b5) && (same row row && (isV (.map (some mN)) (.map (some mN)) && (same n n && (same f f && isV (ptrV r) (ptrV r))))))) then
          .ret (((⟨b5,mO,gO,nO,some (mN,upd gN (IntKind.i64.wrap (key+n)) ((IntKind.i64.wrap (sp.1+f)),(IntKind.i64.wrap (sp.2.1+f))),nN+1),it⟩:SS93)),())
        else .fail
      else .fail
  else .fail
theorem s93 (N:Nat) (b5 mO:Nat) (gO:GF) (nO mN:Nat) (gN:GF) (nN:Nat) (it:Option (Nat×(Int->Bool)×Nat)) (r:Nat) (tab:TAB) (row n f key:Int) (sp:Int×Int×Unit):vhr Try.prog H93 (phi []) [] N C93p T93p (k93 b5 mN r tab row n f) (⟨b5,mO,gO,nO,some (mN,gN,nN),it⟩:SS93) (st93 b5 mN r tab row n f key sp)=S93 b5 mO gO nO mN gN nN it r tab row n f key sp:=by
  kernel_rfl
end Go.V
namespace Go.V
open Go.Proofs
open Go.RowKit (Below)
def SS93.nxt (s:SS93) (x:Nat×GF×Nat):SS93:={ s with nx:=some x }
section
variable {ro : Option Nat} {n : Nat} {Q : Exit → Act → World → Prop} {F : Nat → Prop} {M0 : Base} {w0 : World} {s : SS93} {st : St} {a : Act} {w : World}
theorem raw93 (hc:ConcH H93 F M0 w0 s st a w) {j:Nat} {v:Value} (h:get st j = .d .raw v):tm a j=v:=by
  obtain ⟨hf,M,hG⟩:=hc
  have s1:=hG.2.1.slot j
  rw [h] at s1
  exact repV_raw (show RepV M w .raw (tm a j) v from s1)
theorem int93 (hc:ConcH H93 F M0 w0 s st a w) {j:Nat} {x:Int} (h:get st j = .d (.int .i64) x):tm a j = .int .i64 x:=by
  obtain ⟨hf,M,hG⟩:=hc
  have s1:=hG.2.1.slot j
  rw [h] at s1
  exact slot_int s1
theorem span93 (hc:ConcH H93 F M0 w0 s st a w) {j:Nat} {x:Int×Int×Unit} (h:get st j = .d (.prod (.int .i64) (.prod (.int .i64) .unit)) x):tm a j=pairV x.1 x.2.1:=by
  obtain ⟨hf,M,hG⟩:=hc
  have s1:=hG.2.1.slot j
  rw [h] at s1
  exact slot_pair s1
theorem size93 (hc:ConcH H93 F M0 w0 s st a w) {N:Nat} (hl:st.length=N):a.tmps.size=N:=by
  obtain ⟨hf,M,hG⟩:=hc
  exact hG.2.1.size.trans hl
theorem inv93 (hc:ConcH H93 F M0 w0 s st a w):∃ M,I93 s M w:=by
  obtain ⟨hf,M,hG⟩:=hc
  exact ⟨M,hG.1⟩
theorem put93_conc (hc:ConcH H93 F M0 w0 s st a w) {x:Nat×GF×Nat} (hx:s.nx=some x) {es:Array MapEntry} {c:Nat} {g:GF} {m:Nat} (hg:∀ w':World,w'.heap[x.1]? = some (.map es c)->MapG g m x.1 w'):ConcH H93 F M0 w0 (s.nxt (x.1,g,m)) st a (w.putObj x.1 (.map es c)):=by
  obtain ⟨hf,M,hG⟩:=hc
  have hI:I93 s M w:=hG.1
  have hb:hb93 s x.1:=.inr (.inr (.inl ⟨x,hx,rfl⟩))
  obtain ⟨es0,c0,hm0⟩:=(hI.nx x hx).1.block
  have hlt:=(Array.getElem?_eq_some_iff.1 hm0).1
  have hfr:Fr (fun k=>k<w.heap.size/\¬ H93.hb (show H93.σ from s) w k) w (w.putObj x.1 (.map es c)):=⟨rfl,rfl,rfl,by simp,fun k hk=>World.putObj_heap_other fun e=>hk.2 (e ▸ hb)⟩
  have hsub:∀ b,hb93 (s.nxt (x.1,g,m)) b->hb93 s b:=fun b h=>by
    rcases h with h|h|⟨y,hy,h⟩|h
    . exact .inl h
    . exact .inr (.inl h)
    . cases hy;exact .inr (.inr (.inl ⟨x,hx,h⟩))
    . exact .inr (.inr (.inr h))
  have key:∀ w1:World,(∀ k,H93.hb (show H93.σ from s) w k->w1.heap[k]? = (w.putObj x.1 (.map es c)).heap[k]?)->I93 (s.nxt (x.1,g,m)) M w1:=by
    intro w1 hk
    have hold:∀ b,hb93 s b->b≠x.1->w1.heap[b]? = w.heap[b]? := fun b h hne=>(hk b h).trans (World.putObj_heap_other hne)
    have hnew:w1.heap[x.1]? = some (.map es c):=(hk x.1 hb).trans (World.putObj_heap_same hlt)
    refine ⟨(hold _ (.inl rfl) fun e=>?_).trans hI.h5,hI.mo.keep (hold _ (.inr (.inl rfl)) fun e=>(hI.nx x hx).2 e.symm),fun y hy=>?_,fun y hy=>(hI.it y hy).keep (hold _ (.inr (.inl rfl)) fun e=>(hI.nx x hx).2 e.symm) (hold _ (.inr (.inr (.inr ⟨y,hy,rfl⟩))) fun e=>?_)⟩
    . have h5:=hI.h5
      rw [e,hm0] at h5;cases h5
    . cases hy
      exact ⟨hg w1 hnew,(hI.nx x hx).2⟩
    . obtain ⟨_,_,_,_,h6⟩:=(hI.it y hy).iter
      rw [e,hm0] at h6;cases h6
  obtain ⟨f1,hG'⟩:=hG.world (s':=(show H93.σ from s.nxt (x.1,g,m))) hfr (fun w1 _ hf1 hk=>⟨key w1 hk,hsub⟩)
  exact ⟨hf.trans f1,M,hG'⟩
end
theorem ex_look136 {a:Act} {w:World} {o:Oper} (ho:o.op = .lookup 95 (.tmp 52) (.tmp 55) true) {m k v:Value} (h1:tm a 52=m) (h2:tm a 55=k) (hr:(Instr.lookup 95 m k true).run Try.prog w = .ok v w):(execOp a.eval o).run Try.prog w = .ok (.value v) w:=by
  have e1:a.eval (.tmp 52)=m:=h1
  have e2:a.eval (.tmp 55)=k:=h2
  simp [execOp,ho,e1,e2,hr]
theorem look93_ok:HandOpR Try.prog H93 r93_13 4 look93:=by
  intro F M0 w0 ro n hI hpl Q K s st a w hc h1 hK
  obtain ⟨o,hi,hd,ho,hg⟩:=infoAt info93_13 (i:=4) rfl
  simp only at hd ho hg
  unfold look93 at h1 hK
  split at h1
  rotate_left
  . cases h1
  rename_i mN gN nN v k en e52 e55
  simp only [Bool.and_eq_true,Bool.not_eq_true'] at h1
  obtain ⟨hnb,hv,hr⟩:=h1
  have t52:tm a 52 = .map (some mN):=(raw93 hc e52).trans (isV_eq hv)
  have t55:=int93 hc e55
  obtain ⟨M,hI0⟩:=inv93 hc
  have hl:=(hI0.nx _ en).1.look hr
  refine opr_value hi (wanted_none hg) (fun c h=>by rw [ho] at h;cases h) (ex_look136 ho t52 t55 hl) ?_
  rw [hd]
  refine hK (s,st.set 56 (.tup (.prod (.prod (.int .i64) (.prod (.int .i64) .unit)) (.prod .bool .unit)) ((((gN k).getD (0,0)).1,((gN k).getD (0,0)).2,()),(gN k).isSome,()))) (by rw [en,e52,e55];exact .head _) _ _ ?_
  obtain ⟨hf,M2,hG⟩:=hc
  have hg2:=hG.focus.fin (dst:=some 56) (s:=.tup (.prod (.prod (.int .i64) (.prod (.int .i64) .unit)) (.prod .bool .unit)) ((((gN k).getD (0,0)).1,((gN k).getD (0,0)).2,()),(gN k).isSome,())) (v:=.tuple #[pairV ((gN k).getD (0,0)).1 ((gN k).getD (0,0)).2,.bool (gN k).isSome]) (fun d' hd=>by cases hd;exact hnb) rfl
    ⟨[pairV ((gN k).getD (0,0)).1 ((gN k).getD (0,0)).2,.bool (gN k).isSome],rfl,_,_,rfl,⟨[.int .i64 ((gN k).getD (0,0)).1,.int .i64 ((gN k).getD (0,0)).2],rfl,[_],[_],rfl,rfl,[_],[],rfl,rfl,rfl⟩,_,_,rfl,⟨[_],rfl,rfl⟩,rfl⟩
  exact ⟨hf,M2,hG.unfocus (Fr.refl _ _) hg2⟩
theorem put93_ok:HandOpR Try.prog H93 r93_16 5 put93:=by
  intro F M0 w0 ro n hI hpl Q K s st a w hc h1 hK
  obtain ⟨o,hi,hd,ho,hg⟩:=infoAt info93_16 (i:=5) rfl
  simp only at hd ho hg
  unfold put93 at h1 hK
  split at h1
  rotate_left
  . cases h1
  rename_i mN gN nN v k p en e71 e74 e75
  simp only [Bool.and_eq_true,decide_eq_true_eq] at h1
  obtain ⟨hv,hr,hn⟩:=h1
  have t71:tm a 71 = .map (some mN):=(raw93 hc e71).trans (isV_eq hv)
  have t74:=int93 hc e74
  have t75:=span93 hc e75
  obtain ⟨M,hI0⟩:=inv93 hc
  obtain ⟨es,c,hrun,hnew⟩:=(hI0.nx _ en).1.put hn hr p.1 p.2.1
  refine opr_skipped hi (wanted_none hg) (fun c h=>by rw [ho] at h;cases h) (ex_put ho t71 t74 t75 hrun) ?_
  rw [hd,put_none]
  refine hK (({ (show SS93 from s) with nx:=some (mN,upd gN k (p.1,p.2.1),nN+1) }:SS93),st) (by rw [en,e71,e74,e75];exact .head _) _ _ ?_
  exact put93_conc hc (x:=(mN,gN,nN)) en hnew
theorem allR93:AllR Try.prog H93 C93p T93p :=
  allR_cons (c' := .region 13 r93_13 false) rfl (regR_ok (fun s g sp hs=>.inl (all_nil sp (List.mem_filter.1 hs).1)) [] fun i y hy=>by
    unfold D93_13 at hy
    split at hy
    . rename_i e;subst e;cases hy;exact look93_ok.one
    . cases hy)
  (allR_cons (c' := .region 16 r93_16 false) rfl (regR_ok (fun s g sp hs=>.inl (all_nil sp (List.mem_filter.1 hs).1)) [] fun i y hy=>by
    unfold D93_16 at hy
    split at hy
    . rename_i e;subst e;cases hy;exact put93_ok.one
    . cases hy) allR_nil)
def merged (g:GF) (k:Int) (y:Int×Int):Int×Int :=
  match g k with
  | some o=>(if o.1<y.1 then o.1 else y.1,if o.2 > y.2 then o.2 else y.2)
  | none=>y
def yOf (f:Int) (p:Int×Int):Int×Int:=(IntKind.i64.wrap (p.1+f),IntKind.i64.wrap (p.2+f))
noncomputable def stB (b5 mN r:Nat) (tab:TAB) (row n f:Int):St:=[.und,.und,.ref TABTY tab,.und,.und,.d .raw (ptrV b5),.d (.int .i64) row,.ref .raw (.map (some mN)),.d (.int .i64) n,.d (.int .i64) f]++List.replicate 26 .und++[.d .raw (ptrV r)]++List.replicate 41 .und
theorem s93_plain {b5 mO:Nat} {gO:GF} {nO mN:Nat} {gN:GF} {nN:Nat} {it:Option (Nat×(Int->Bool)×Nat)} {r:Nat} {tab:TAB} {row n f key:Int} {p:Int×Int} (hk:rng (IntKind.i64.wrap (key+n))=true) (hn:nN<1000000) :
    S93 b5 mO gO nO mN gN nN it r tab row n f key (p.1,p.2,()) = .ret (⟨b5,mO,gO,nO,some (mN,upd gN (IntKind.i64.wrap (key+n)) (merged gN (IntKind.i64.wrap (key+n)) (yOf f p)),nN+1),it⟩,()):=by
  unfold S93
  rw [isV_refl,hk,decide_eq_true hn]
  simp only [isV_refl,same_refl,Bool.and_self,cond_true]
  unfold merged yOf
  cases h:gN (IntKind.i64.wrap (key+n)) with
  | none=>rfl
  | some o=>rfl
theorem stB_low (b5 mN r:Nat) (tab:TAB) (row n f:Int) {j:Nat} (h:get (stB b5 mN r tab row n f) j ≠ .und):j=2\/j=5\/j=6\/j=7\/j=8\/j=9\/j=36:=by
  by_cases hj:j<78
  . have h1:((List.range 78).all fun k=>k==2 || k==5 || k==6 || k==7 || k==8 || k==9 || k==36 || (match get (stB b5 mN r tab row n f) k with | .und=>true|_=>false))=true:=by rfl
    have h2:=List.all_eq_true.1 h1 j (List.mem_range.2 hj)
    simp only [Bool.or_eq_true,beq_iff_eq] at h2
    rcases h2 with (((((((h2|h2)|h2)|h2)|h2)|h2)|h2)|h2)
    . exact .inl h2
    . exact .inr (.inl h2)
    . exact .inr (.inr (.inl h2))
    . exact .inr (.inr (.inr (.inl h2)))
    . exact .inr (.inr (.inr (.inr (.inl h2))))
    . exact .inr (.inr (.inr (.inr (.inr (.inl h2)))))
    . exact .inr (.inr (.inr (.inr (.inr (.inr h2)))))
    . revert h2
      cases e:get (stB b5 mN r tab row n f) j with
      | und=>exact fun _=>absurd e h
      | _=>exact fun h=>by cases h
  . exfalso
    apply h
    unfold get
    rw [List.getD_eq_getElem?_getD,List.getElem?_eq_none (by show 78<=j;omega)]
    rfl
section
variable {ro : Option Nat} {nn : Nat} {Q : Exit → Act → World → Prop} {F : Nat → Prop} {M0 : Base} {w0 : World} {a : Act} {w : World}
theorem p93_wp {b5 mO:Nat} {gO:GF} {nO mN:Nat} {gN:GF} {nN:Nat} {it:Option (Nat×(Int->Bool)×Nat)} {r:Nat} {tab:TAB} {row n f key:Int} {p:Int×Int} (hk:rng (IntKind.i64.wrap (key+n))=true) (hn:nN<1000000) (hI:∀ w,Fr F w0 w->Inv.I Try.prog w) (hpl:∀ j v,M0.pin j=some v->False)
    (hc:ConcH H93 F M0 w0 (⟨b5,mO,gO,nO,some (mN,gN,nN),it⟩:SS93) (st93 b5 mN r tab row n f key (p.1,p.2,())) a w)
    (hQ:∀ a' w',ConcH H93 F M0 w0 (⟨b5,mO,gO,nO,some (mN,upd gN (IntKind.i64.wrap (key+n)) (merged gN (IntKind.i64.wrap (key+n)) (yOf f p)),nN+1),it⟩:SS93) (stB b5 mN r tab row n f) a' w'->Q .normal a' w') :
    C93p.wpIn (fen ro) nn Try.prog Q a w:=by
  have h0:=(s93 1 b5 mO gO nO mN gN nN it r tab row n f key (p.1,p.2,())).trans (s93_plain hk hn)
  refine vhr_ok (phi_ok all_nil) mixed [] 1 (by simp) (by simp) C93p T93p allR93 F M0 w0 ro nn hI hpl _ _ ?_ _ _ _ _ hc h0
  intro x s st a' w' hc' hx
  unfold k93 at hx
  split at hx
  rotate_left
  . cases hx
  split at hx
  rotate_left
  . cases hx
  rename_i tab' v5 row' v7 n' f' v36 e2 e5 e6 e7 e8 e9 e36
  cases h1:st.length==78 with
  | false=>rw [h1] at hx;cases hx
  | true =>
  rw [h1] at hx
  simp only [cond_true] at hx
  cases h2:(same tab' tab && (isV v5 (ptrV b5) && (same row' row && (isV v7 (.map (some mN)) && (same n' n && (same f' f && isV v36 (ptrV r))))))) with
  | false=>rw [h2] at hx;cases hx
  | true =>
  rw [h2] at hx
  simp only [Bool.and_eq_true] at h2
  obtain ⟨g1,g2,g3,g4,g5,g6,g7⟩:=h2
  have g1:=same_eq g1
  have g2:=isV_eq g2
  have g3:=same_eq g3
  have g4:=isV_eq g4
  have g5:=same_eq g5
  have g6:=same_eq g6
  have g7:=isV_eq g7
  subst g1 g2 g3 g4 g5 g6 g7
  cases hx
  refine hQ a' w' ?_
  have hl:st.length=78:=by simpa using h1
  obtain ⟨hf',M,hG⟩:=hc'
  refine ⟨hf',M,hG.unfocus (Fr.refl _ _) (hG.focus.mask (by rw [hl];rfl) (fun j=>?_) fun j v hj=>(hpl j v hj).elim)⟩
  by_cases hu:get (stB b5 mN r tab' row' n' f') j = .und
  . exact .inl hu
  . refine .inr (.inl ?_)
    rcases stB_low b5 mN r tab' row' n' f' hu with rfl|rfl|rfl|rfl|rfl|rfl|rfl
    . rw [e2];rfl
    . rw [e5];rfl
    . rw [e6];rfl
    . rw [e7];rfl
    . rw [e8];rfl
    . rw [e9];rfl
    . rw [e36];rfl
end
end Go.V
namespace Go.V
open Go.Proofs
open Go.RowKit (Below)
section
variable {H : Hole} {F : Nat → Prop} {M0 : Base} {w0 : World} {s : H.σ} {M : Mut} {st : St} {a : Act} {w : World}
theorem good_put (hG:GoodH H F M0 s M st a w) {d:Nat} (hnb:isBox (get st d)=false) {x:S} (hx:plain x=true) {v:Value} (hs:SlotOK M w st a v x):GoodH H F M0 s M (st.set d x) (a.put (some d) v) w :=
  hG.unfocus (Fr.refl _ _) (hG.focus.fin (dst:=some d) (s:=x) (v:=v) (fun d' hd=>by cases hd;exact hnb) hx hs)
theorem good_free (hG:GoodH H F M0 s M st a w) {d:Nat} (h:get st d = .und) (v:Value):GoodH H F M0 s M st (a.put (some d) v) w:=by
  have hg:=good_put hG (d:=d) (by rw [h];rfl) (x:=.und) rfl (v:=v) trivial
  rwa [set_get h] at hg
end
section
variable {a : Act} {w : World} {o : Oper}
theorem ex_range136 (ho:o.op = .range 95 (.tmp 35)) {m:Value} (h:tm a 35=m) {v:Value} {w':World} (hr:(Instr.range 95 m).run Try.prog w = .ok v w'):(execOp a.eval o).run Try.prog w = .ok (.value v) w':=by
  have e1:a.eval (.tmp 35)=m:=h
  simp [execOp,ho,e1,hr]
theorem ex_next {p:Nat} (ho:o.op = .next (.tmp p) false) {m:Value} (h:tm a p=m) {v:Value} {w':World} (hr:(Instr.next m false o.type).run Try.prog w = .ok v w'):(execOp a.eval o).run Try.prog w = .ok (.value v) w':=by
  have e1:a.eval (.tmp p)=m:=h
  simp [execOp,ho,e1,hr]
theorem ex_entry {p:Nat} (ho:o.op = .entry (.tmp p)) {m:Value} (h:tm a p=m) {v:Value} {w':World} (hr:(Instr.entry m).run Try.prog w = .ok v w'):(execOp a.eval o).run Try.prog w = .ok (.value v) w':=by
  have e1:a.eval (.tmp p)=m:=h
  simp [execOp,ho,e1,hr]
theorem ex_extract {p i:Nat} (ho:o.op = .extract (.tmp p) i) {vs:Array Value} {v:Value} (h:tm a p = .tuple vs) (hv:vs[i]? = some v):(execOp a.eval o).run Try.prog w = .ok (.value v) w:=by
  have e1:a.eval (.tmp p) = .tuple vs:=h
  simp [execOp,ho,e1,Instr.extract,hv]
end
theorem MapG.range2 {g:GF} {n m:Nat} {w:World} (h:MapG g n m w):∃ w' cnt,(Instr.range 95 (.map (some m))).run Try.prog w = .ok (.pointer (some ⟨w.heap.size,0,none⟩)) w'/\RangeG g (fun k=>(g k).isSome) cnt n m w.heap.size w'/\w.grownBy w' none/\w'.heap.size=w.heap.size+1/\cnt<=n:=by
  obtain ⟨D,h1,h2⟩:=h
  obtain ⟨w',hr,h3,h4,h5⟩:=h1.range keyI.law und136
  exact ⟨w',_,hr,⟨D,_,h3,h2,fun k hk=>h2.has k hk,h2.keys,fun k _ h=>h⟩,h4,h5,h1.size_le⟩
noncomputable def lb93:Code:=.seq (.region 10 r93_10 false) (.seq (.cond (.tmp 38) .skip (.exit 4)) (.block 5 (.seq (.region 11 r93_11 false) C93p)))
theorem round93_eq:round93 = .block 3 (.seq (.region 8 r93_8 false) (.seq (.region 9 r93_9 false) (.block 4 (.loop lb93)))):=by kernel_rfl
noncomputable def stepG (gO:GF) (n f:Int) (gN:GF):GF:=fun j=>match gO (j - n) with
  | some p=>some (merged gN j (yOf f p))
  | none=>gN j
def Bd (g:GF):Prop:=∀ k p,g k=some p -> -1000000<=k/\k<=1000000
noncomputable def stM (b5 mN:Nat) (tab:TAB) (row n:Int):St:=[.und,.und,.ref TABTY tab,.und,.und,.d .raw (ptrV b5),.d (.int .i64) row,.ref .raw (.map (some mN)),.d (.int .i64) n]++List.replicate 69 .und
noncomputable def stC (b5 mN:Nat) (tab:TAB) (row n f:Int):St:=[.und,.und,.ref TABTY tab,.und,.und,.d .raw (ptrV b5),.d (.int .i64) row,.ref .raw (.map (some mN)),.d (.int .i64) n,.d (.int .i64) f]++List.replicate 68 .und
theorem e93_8 (N:Nat) (b5 mN:Nat) (tab:TAB) (row n:Int) (k:X->H93.σ->St->Out Unit) (s:H93.σ):vhr Try.prog H93 (phi [sp63]) [] N (.region 8 r93_8 false) [] k s (stM b5 mN tab row n)=match f63 (tab,(n,())) with
    | .ret f=>k .normal s ((((stM b5 mN tab row n).set 32 (.d TABTY tab)).set 33 (.d (.int .i64) n)).set 34 (.d (.int .i64) f) |>.set 9 (.d (.int .i64) f))
    | .pan _=>.fail
    | .fail=>.fail:=by kernel_rfl
theorem stC_low (b5 mN:Nat) (tab:TAB) (row n f:Int) {j:Nat} (h:get (stC b5 mN tab row n f) j ≠ .und):j=2\/j=5\/j=6\/j=7\/j=8\/j=9:=by
  by_cases hj:j<78
  . have h1:((List.range 78).all fun k=>k==2 || k==5 || k==6 || k==7 || k==8 || k==9 || (match get (stC b5 mN tab row n f) k with | .und=>true|_=>false))=true:=by rfl
    have h2:=List.all_eq_true.1 h1 j (List.mem_range.2 hj)
    simp only [Bool.or_eq_true,beq_iff_eq] at h2
    rcases h2 with ((((((h2|h2)|h2)|h2)|h2)|h2)|h2)
    . exact .inl h2
    . exact .inr (.inl h2)
    . exact .inr (.inr (.inl h2))
    . exact .inr (.inr (.inr (.inl h2)))
    . exact .inr (.inr (.inr (.inr (.inl h2))))
    . exact .inr (.inr (.inr (.inr (.inr h2))))
    . revert h2
      cases e:get (stC b5 mN tab row n f) j with
      | und=>exact fun _=>absurd e h
      | _=>exact fun h=>by cases h
  . exfalso
    apply h
    unfold get
    rw [List.getD_eq_getElem?_getD,List.getElem?_eq_none (by show 78<=j;omega)]
    rfl
theorem stC_und (b5 mN:Nat) (tab:TAB) (row n f:Int) {j:Nat} (h:10<=j):get (stC b5 mN tab row n f) j = .und:=by
  by_cases hu:get (stC b5 mN tab row n f) j = .und
  . exact hu
  . rcases stC_low b5 mN tab row n f hu with e|e|e|e|e|e<;>omega
theorem stB_und (b5 mN r:Nat) (tab:TAB) (row n f:Int) {j:Nat} (h:10<=j) (h2:j≠36):get (stB b5 mN r tab row n f) j = .und:=by
  by_cases hu:get (stB b5 mN r tab row n f) j = .und
  . exact hu
  . rcases stB_low b5 mN r tab row n f hu with e|e|e|e|e|e|e<;>omega
section
variable {ro : Option Nat} {nn : Nat} {Q : Exit → Act → World → Prop} {F : Nat → Prop} {M0 : Base} {w0 : World} {a : Act} {w : World} {b5 mO mN r : Nat} {gO : GF} {nO : Nat} {tab : TAB} {row n f : Int}
theorem r8_wp (hI:∀ w,Fr F w0 w->Inv.I Try.prog w) (hpl:∀ j v,M0.pin j=some v->False) {s:SS93} (hf:f63 (tab,(n,())) = .ret f) (hc:ConcH H93 F M0 w0 s (stM b5 mN tab row n) a w) (hQ:∀ a' w',ConcH H93 F M0 w0 s (stC b5 mN tab row n f) a' w'->Q .normal a' w') :
    (Code.region 8 r93_8 false).wpIn (fen ro) nn Try.prog Q a w:=by
  have h0:=e93_8 1 b5 mN tab row n (fun x s' st=>match x with | .normal=>bif same (show SS93 from s') s && same st ((((stM b5 mN tab row n).set 32 (.d TABTY tab)).set 33 (.d (.int .i64) n)).set 34 (.d (.int .i64) f) |>.set 9 (.d (.int .i64) f)) then .ret () else .fail|_=>.fail) s
  rw [hf] at h0
  simp only [same_refl,Bool.and_self,cond_true] at h0
  refine vhr_ok (phi_ok (all_cons c63 all_nil)) mixed [] 1 (fin:=.ret ()) (by simp) (by simp) _ _ allR_nil F M0 w0 ro nn hI hpl _ _ ?_ _ _ _ _ hc h0
  intro x s' st a' w' hc' hx
  split at hx
  rotate_left
  . cases hx
  cases h1:(same (show SS93 from s') s && same st ((((stM b5 mN tab row n).set 32 (.d TABTY tab)).set 33 (.d (.int .i64) n)).set 34 (.d (.int .i64) f) |>.set 9 (.d (.int .i64) f))) with
  | false=>rw [h1] at hx;cases hx
  | true =>
  rw [Bool.and_eq_true] at h1
  have e1:=same_eq h1.1
  have e2:=same_eq h1.2
  have e1:s'=s:=e1
  rw [e1,e2] at hc'
  refine hQ a' w' ?_
  obtain ⟨hf',M,hG⟩:=hc'
  refine ⟨hf',M,hG.unfocus (Fr.refl _ _) (hG.focus.mask rfl (fun j=>?_) fun j v hj=>(hpl j v hj).elim)⟩
  by_cases hu:get (stC b5 mN tab row n f) j = .und
  . exact .inl hu
  . refine .inr (.inl ?_)
    rcases stC_low b5 mN tab row n f hu with rfl|rfl|rfl|rfl|rfl|rfl<;>rfl
theorem r9_wp {nx:Option (Nat×GF×Nat)} (hc:ConcH H93 F M0 w0 (⟨b5,mO,gO,nO,nx,none⟩:SS93) (stC b5 mN tab row n f) a w) (hQ:∀ r cnt a' w',ConcH H93 F M0 w0 (⟨b5,mO,gO,nO,nx,some (r,(fun k=>(gO k).isSome),cnt)⟩:SS93) (stB b5 mN r tab row n f) a' w'->cnt<=nO->Q .normal a' w') :
    (Code.region 9 r93_9 false).wpIn (fen ro) nn Try.prog Q a w:=by
  have t5:tm a 5=ptrV b5:=raw93 hc rfl
  have hsz:=size93 hc (N:=78) rfl
  obtain ⟨hfr,M,hG⟩:=hc
  have hIB:I93 _ M w:=hG.1
  have h5:w.heap[b5]? = some (.cells #[.map (some mO)] 95 (0,0)):=hIB.h5
  refine wpIn_region ?_
  rw [show r93_9.size=2 by kernel_rfl]
  show wpOpsIn (fen ro) nn Try.prog r93_9 _ [0,1] a w
  obtain ⟨o0,i0,d0,p0,q0⟩:=infoAt info93_9 (i:=0) rfl
  simp only at d0 p0 q0
  rw [wpOpsIn_cons]
  refine opr_value i0 (wanted_none q0) (fun c h=>by rw [p0] at h;cases h) (ex_load1 (T:=95) (t:=.opq) (by kernel_rfl) rfl rfl p0 t5 h5) ?_
  rw [d0]
  obtain ⟨a1,ha1⟩:∃ zz:Act,zz=Act.put a (some 35) (.map (some mO)):=⟨_,rfl⟩
  rw [<- ha1]
  have z1:a1.tmps.size=78:=by rw [ha1,size_put];exact hsz
  obtain ⟨o1,i1,d1,p1,q1⟩:=infoAt info93_9 (i:=1) rfl
  simp only at d1 p1 q1
  rw [wpOpsIn_cons]
  have t1_35:tm a1 35 = .map (some mO):=by rw [ha1];exact tm_put_same (by omega)
  obtain ⟨w1,cnt,hrun,hrg,hgr,hs1,hcn⟩:=MapG.range2 (g:=gO) (n:=nO) (m:=mO) (w:=w) hIB.mo
  refine opr_value i1 (wanted_none q1) (fun c h=>by rw [p1] at h;cases h) (ex_range136 p1 t1_35 hrun) ?_
  rw [d1]
  obtain ⟨a2,ha2⟩:∃ zz:Act,zz=Act.put a1 (some 36) (.pointer (some ⟨w.heap.size,0,none⟩)):=⟨_,rfl⟩
  rw [<- ha2]
  have z2:a2.tmps.size=78:=by rw [ha2,size_put];exact z1
  obtain ⟨M',hM'⟩:∃ M':Mut,M'=fun b o=>M b o\/b=w.heap.size:=⟨_,rfl⟩
  have hold:∀ k,k<w.heap.size->w1.heap[k]? = w.heap[k]? := fun k hk=>hgr.block k hk (by simp)
  obtain ⟨s1,hs1e⟩:∃ s1:SS93,s1=⟨b5,mO,gO,nO,nx,some (w.heap.size,(fun k=>(gO k).isSome),cnt)⟩:=⟨_,rfl⟩
  have hlt:∀ b,hb93 (⟨b5,mO,gO,nO,nx,none⟩:SS93) b->b<w.heap.size:=fun b hb=>H93.lt _ M w b hIB hb
  have hsub:∀ b,hb93 s1 b->hb93 (⟨b5,mO,gO,nO,nx,none⟩:SS93) b\/b=w.heap.size:=fun b hb=>by
    subst hs1e
    rcases hb with h|h|h|⟨y,hy,h⟩
    . exact .inl (.inl h)
    . exact .inl (.inr (.inl h))
    . exact .inl (.inr (.inr (.inl h)))
    . cases hy;exact .inr h
  have hI1:I93 s1 M' w1:=by
    have hk:=I93.keep (M':=M') hIB (fun b hb=>hold b (hlt b hb))
    subst hs1e
    exact ⟨hk.h5,hk.mo,hk.nx,fun x hx=>by cases hx;exact hrg⟩
  obtain ⟨f1,f2⟩:=hG.grow (s':=(show H93.σ from s1)) (M':=M') (w':=w1) ⟨hgr.os,hgr.tape,hgr.output,hgr.size,fun k hk=>hold k hk.1⟩ hI1 (fun b o h=>by rw [hM'];exact .inr (.inl h)) (fun b o h=>by
    rw [hM'] at h
    rcases h with h|h
    . exact .inl h
    . exact .inr ⟨by omega,by omega⟩) (fun b hb=>(hsub b hb).imp id fun h=>by omega) fun b hb o=>by
    rw [hM']
    rcases hsub b hb with h|h
    . exact .inl ((hG.2.2 b h).2.1 o)
    . exact .inr h
  have f3:=good_free f2 (d:=35) (stC_und b5 mN tab row n f (by omega)) (.map (some mO))
  have f4:=good_put f3 (d:=36) (by rw [stC_und b5 mN tab row n f (by omega)];rfl) (x:=.d .raw (ptrV w.heap.size)) rfl (v:=ptrV w.heap.size) ⟨[_],rfl,rfl,rfl,rfl⟩
  subst hs1e
  refine hQ w.heap.size cnt _ w1 ⟨hfr.trans f1,M',?_⟩ hcn
  rw [ha2,ha1]
  exact f4
theorem loop93 (hI:∀ w,Fr F w0 w->Inv.I Try.prog w) (hpl:∀ j v,M0.pin j=some v->False) {gN:GF} {nMax:Nat} (hbd:Bd gO) (hn1 : -1000000<=n) (hn2:n<=1000000) (hnm:nMax<1000000)
    (hQ:∀ nN lf cnt a' w',ConcH H93 F M0 w0 (⟨b5,mO,gO,nO,some (mN,stepG gO n f gN,nN),some (r,lf,cnt)⟩:SS93) (stB b5 mN r tab row n f) a' w'->nN<=nMax->Q (.exit 4) a' w') :
    ∀ (m:Nat) (g:GF) (nN:Nat) (lf:Int->Bool) (cnt:Nat) (a:Act) (w:World),cnt<m->nN+cnt<=nMax->(∀ j,g j=match gO (j - n) with|some p=>if lf (j - n) then gN j else some (merged gN j (yOf f p))|none=>gN j) ->
      ConcH H93 F M0 w0 (⟨b5,mO,gO,nO,some (mN,g,nN),some (r,lf,cnt)⟩:SS93) (stB b5 mN r tab row n f) a w->Code.roundsIn (fen ro) nn Try.prog lb93 Q m a w:=by
  intro m
  induction m with
  | zero=>intro g nN lf cnt a w h;omega
  | succ m ih =>
    intro g nN lf cnt a w hm hnn hg hc
    have t36:tm a 36=ptrV r:=raw93 hc rfl
    have hsz:=size93 hc (N:=78) rfl
    obtain ⟨hfr,M,hG⟩:=hc
    have hIB:I93 _ M w:=hG.1
    have hrg:RangeG gO lf cnt nO mO r w:=hIB.it _ rfl
    obtain ⟨s0,hs0⟩:∃ s0:SS93,s0=⟨b5,mO,gO,nO,some (mN,g,nN),some (r,lf,cnt)⟩:=⟨_,rfl⟩
    rw [<- hs0] at hG hIB
    rw [roundsIn_succ]
    show Code.wpIn (fen ro) nn Try.prog (.seq (.region 10 r93_10 false) (.seq (.cond (.tmp 38) .skip (.exit 4)) (.block 5 (.seq (.region 11 r93_11 false) C93p)))) _ a w
    refine wpIn_seq ?_
    refine wpIn_region ?_
    rw [show r93_10.size=2 by kernel_rfl]
    show wpOpsIn (fen ro) nn Try.prog r93_10 _ [0,1] a w
    obtain ⟨ox0,ix0,dx0,px0,qx0⟩:=infoAt info93_10 (i:=0) rfl
    simp only at dx0 px0 qx0
    rw [wpOpsIn_cons]
    rcases hrg.next ox0.type with ⟨e1,e2,hrun⟩|⟨k,pa,pb,w1,cnt1,hk,hlk,hgk,hrun,hrg1,hc1,hgr,hs1,hent⟩
    . -- the end
      refine opr_value ix0 (wanted_none qx0) (fun c h=>by rw [px0] at h;cases h) (ex_next px0 t36 hrun) ?_
      rw [dx0]
      obtain ⟨ae1,hae1⟩:∃ zz:Act,zz=Act.put a (some 37) (.tuple #[.bool false]):=⟨_,rfl⟩
      rw [<- hae1]
      have ze1:ae1.tmps.size=78:=by rw [hae1,size_put];exact hsz
      have te1_37:tm ae1 37 = .tuple #[.bool false]:=by rw [hae1];exact tm_put_same (by omega)
      obtain ⟨oe1,ie1,de1,pe1,qe1⟩:=infoAt info93_10 (i:=1) rfl
      simp only at de1 pe1 qe1
      rw [wpOpsIn_cons]
      refine opr_value ie1 (wanted_none qe1) (fun c h=>by rw [pe1] at h;cases h) (ex_extract (v:=.bool false) pe1 te1_37 rfl) ?_
      rw [de1]
      obtain ⟨ae2,hae2⟩:∃ zz:Act,zz=Act.put ae1 (some 38) (.bool false):=⟨_,rfl⟩
      rw [<- hae2]
      have ze2:ae2.tmps.size=78:=by rw [hae2,size_put];exact ze1
      have te2_38:tm ae2 38 = .bool false:=by rw [hae2];exact tm_put_same (by omega)
      refine wpIn_seq (wpIn_cond (t:=false) te2_38 ?_)
      simp only [Bool.false_eq_true,if_false]
      have f3:=good_free (good_free hG (d:=37) (stB_und b5 mN r tab row n f (by omega) (by omega)) (.tuple #[.bool false])) (d:=38) (stB_und b5 mN r tab row n f (by omega) (by omega)) (.bool false)
      have hgg:g=stepG gO n f gN:=by
        funext j
        rw [hg j]
        unfold stepG
        cases hj:gO (j - n) with
        | none=>rfl
        | some p =>
          have hr:rng (j - n)=true:=by
            have h1:=hbd _ _ hj
            simp only [rng,Bool.and_eq_true,decide_eq_true_eq]
            omega
          simp only [e2 _ hr,Bool.false_eq_true,if_false]
      refine wpIn_exit (hQ nN lf cnt _ w ⟨hfr,M,?_⟩ (by omega))
      rw [<- hgg,<- hs0,hae2,hae1]
      exact f3
    . -- an entry
      refine opr_value ix0 (wanted_none qx0) (fun c h=>by rw [px0] at h;cases h) (ex_next px0 t36 hrun) ?_
      rw [dx0]
      obtain ⟨ag1,hag1⟩:∃ zz:Act,zz=Act.put a (some 37) (.tuple #[.bool true,.int .i64 k,pairV pa pb]):=⟨_,rfl⟩
      rw [<- hag1]
      have zg1:ag1.tmps.size=78:=by rw [hag1,size_put];exact hsz
      have tg1_37:tm ag1 37 = .tuple #[.bool true,.int .i64 k,pairV pa pb]:=by rw [hag1];exact tm_put_same (by omega)
      obtain ⟨og1,ig1,dg1,pg1,qg1⟩:=infoAt info93_10 (i:=1) rfl
      simp only at dg1 pg1 qg1
      rw [wpOpsIn_cons]
      refine opr_value ig1 (wanted_none qg1) (fun c h=>by rw [pg1] at h;cases h) (ex_extract (v:=.bool true) pg1 tg1_37 rfl) ?_
      rw [dg1]
      obtain ⟨ag2,hag2⟩:∃ zz:Act,zz=Act.put ag1 (some 38) (.bool true):=⟨_,rfl⟩
      rw [<- hag2]
      have zg2:ag2.tmps.size=78:=by rw [hag2,size_put];exact zg1
      have tg2_38:tm ag2 38 = .bool true:=by rw [hag2];exact tm_put_same (by omega)
      refine wpIn_seq (wpIn_cond (t:=true) tg2_38 ?_)
      have tg1_36:tm ag1 36 = .pointer (some ⟨r,0,none⟩):=by rw [hag1,tm_put_other (by omega)];exact t36
      have tg2_36:tm ag2 36 = .pointer (some ⟨r,0,none⟩):=by rw [hag2,tm_put_other (by omega)];exact tg1_36
      simp only [if_true]
      refine wpIn_skip (wpIn_block (wpIn_seq ?_))
      refine wpIn_region ?_
      rw [show r93_11.size=6 by kernel_rfl]
      show wpOpsIn (fen ro) nn Try.prog r93_11 _ [0,1,2,3,4,5] ag2 w1
      obtain ⟨oh0,ih0,dh0,ph0,qh0⟩:=infoAt info93_11 (i:=0) rfl
      simp only at dh0 ph0 qh0
      rw [wpOpsIn_cons]
      refine opr_value ih0 (wanted_none qh0) (fun c h=>by rw [ph0] at h;cases h) (ex_entry ph0 tg2_36 hent) ?_
      rw [dh0]
      obtain ⟨ah1,hah1⟩:∃ zz:Act,zz=Act.put ag2 (some 39) (.tuple #[.int .i64 k,pairV pa pb]):=⟨_,rfl⟩
      rw [<- hah1]
      have zh1:ah1.tmps.size=78:=by rw [hah1,size_put];exact zg2
      have th1_39:tm ah1 39 = .tuple #[.int .i64 k,pairV pa pb]:=by rw [hah1];exact tm_put_same (by omega)
      obtain ⟨oh1,ih1,dh1,ph1,qh1⟩:=infoAt info93_11 (i:=1) rfl
      simp only at dh1 ph1 qh1
      rw [wpOpsIn_cons]
      refine opr_value ih1 (wanted_none qh1) (fun c h=>by rw [ph1] at h;cases h) (ex_extract (v:=.int .i64 k) ph1 th1_39 rfl) ?_
      rw [dh1]
      obtain ⟨ah2,hah2⟩:∃ zz:Act,zz=Act.put ah1 (some 40) (.int .i64 k):=⟨_,rfl⟩
      rw [<- hah2]
      have zh2:ah2.tmps.size=78:=by rw [hah2,size_put];exact zh1
      have th2_39:tm ah2 39 = .tuple #[.int .i64 k,pairV pa pb]:=by rw [hah2,tm_put_other (by omega)];exact th1_39
      obtain ⟨oh2,ih2,dh2,ph2,qh2⟩:=infoAt info93_11 (i:=2) rfl
      simp only at dh2 ph2 qh2
      rw [wpOpsIn_cons]
      refine opr_value ih2 (wanted_none qh2) (fun c h=>by rw [ph2] at h;cases h) (ex_extract (v:=pairV pa pb) ph2 th2_39 rfl) ?_
      rw [dh2]
      obtain ⟨ah3,hah3⟩:∃ zz:Act,zz=Act.put ah2 (some 41) (pairV pa pb):=⟨_,rfl⟩
      rw [<- hah3]
      have zh3:ah3.tmps.size=78:=by rw [hah3,size_put];exact zh2
      obtain ⟨oh3,ih3,dh3,ph3,qh3⟩:=infoAt info93_11 (i:=3) rfl
      simp only at dh3 ph3 qh3
      rw [wpOpsIn_cons]
      refine opr_value ih3 (wanted_none qh3) (fun c h=>by rw [ph3] at h;cases h) (ex_alloc45 ph3) ?_
      rw [dh3]
      obtain ⟨ah4,hah4⟩:∃ zz:Act,zz=Act.put ah3 (some 11) (.pointer (some ⟨w1.heap.size,0,none⟩)):=⟨_,rfl⟩
      rw [<- hah4]
      have zh4:ah4.tmps.size=78:=by rw [hah4,size_put];exact zh3
      obtain ⟨w2,hw2⟩:∃ b:World,b=w1.alloc (.cells #[.int .i64 0,.int .i64 0] 45):=⟨_,rfl⟩
      rw [<- hw2]
      have c2:w2.heap[w1.heap.size]? = some (.cells #[.int .i64 0,.int .i64 0] 45 (0,0)):=by rw [hw2];exact heap_alloc_new w1 _
      have th2_40:tm ah2 40 = .int .i64 k:=by rw [hah2];exact tm_put_same (by omega)
      have th3_40:tm ah3 40 = .int .i64 k:=by rw [hah3,tm_put_other (by omega)];exact th2_40
      have th4_40:tm ah4 40 = .int .i64 k:=by rw [hah4,tm_put_other (by omega)];exact th3_40
      obtain ⟨oh4,ih4,dh4,ph4,qh4⟩:=infoAt info93_11 (i:=4) rfl
      simp only at dh4 ph4 qh4
      rw [wpOpsIn_cons]
      refine opr_value ih4 (wanted_none qh4) (fun c h=>by rw [ph4] at h;cases h) (ex_assign ph4) ?_
      rw [dh4,th4_40]
      obtain ⟨ah5,hah5⟩:∃ zz:Act,zz=Act.put ah4 (some 10) (.int .i64 k):=⟨_,rfl⟩
      rw [<- hah5]
      have zh5:ah5.tmps.size=78:=by rw [hah5,size_put];exact zh4
      have th4_11:tm ah4 11 = .pointer (some ⟨w1.heap.size,0,none⟩):=by rw [hah4];exact tm_put_same (by omega)
      have th5_11:tm ah5 11 = .pointer (some ⟨w1.heap.size,0,none⟩):=by rw [hah5,tm_put_other (by omega)];exact th4_11
      have th3_41:tm ah3 41=pairV pa pb:=by rw [hah3];exact tm_put_same (by omega)
      have th4_41:tm ah4 41=pairV pa pb:=by rw [hah4,tm_put_other (by omega)];exact th3_41
      have th5_41:tm ah5 41=pairV pa pb:=by rw [hah5,tm_put_other (by omega)];exact th4_41
      obtain ⟨oh5,ih5,dh5,ph5,qh5⟩:=infoAt info93_11 (i:=5) rfl
      simp only at dh5 ph5 qh5
      rw [wpOpsIn_cons]
      refine opr_skipped ih5 (wanted_none qh5) (fun c h=>by rw [ph5] at h;cases h) (ex_store45 (x:=pa) (y:=pb) ph5 th5_11 th5_41 c2) ?_
      rw [dh5,put_none]
      obtain ⟨w3,hw3⟩:∃ b:World,b=w2.setRow w1.heap.size #[.int .i64 pa,.int .i64 pb]:=⟨_,rfl⟩
      rw [<- hw3]
      have c3:w3.heap[w1.heap.size]? = some (.cells #[.int .i64 pa,.int .i64 pb] 45 (0,0)):=by rw [hw3];exact setRow_same c2
      have l2:w2.heap.size=w1.heap.size+1:=by rw [hw2];simp
      have l3:w3.heap.size=w1.heap.size+1:=by rw [hw3,setRow_size];exact l2
      have hold1:∀ k,k<w1.heap.size->w3.heap[k]? = w1.heap[k]? := fun k hk=>by rw [hw3,setRow_other (by omega),hw2,heap_alloc_old w1 _ hk]
      have hold:∀ k,k<w.heap.size->k≠r->w3.heap[k]? = w.heap[k]? := fun k hk hr=>(hold1 k (by omega)).trans (hgr.block k hk fun e=>hr (by cases e;rfl))
      obtain ⟨lf1,hlf1⟩:∃ lf1:Int->Bool,lf1=fun x=>lf x && !(x==k):=⟨_,rfl⟩
      rw [<- hlf1] at hrg1
      obtain ⟨s1,hs1e⟩:∃ s1:SS93,s1=⟨b5,mO,gO,nO,some (mN,g,nN),some (r,lf1,cnt1)⟩:=⟨_,rfl⟩
      have hlt:∀ b,hb93 s0 b->b<w.heap.size:=fun b hb=>H93.lt _ M w b hIB hb
      have hsub:∀ b,hb93 s1 b->hb93 s0 b:=fun b hb=>by
        subst hs1e hs0
        rcases hb with h|h|h|⟨y,hy,h⟩
        . exact .inl h
        . exact .inr (.inl h)
        . exact .inr (.inr (.inl h))
        . cases hy;exact .inr (.inr (.inr ⟨_,rfl,h⟩))
      have hri:hb93 s0 r:=by subst hs0;exact .inr (.inr (.inr ⟨_,rfl,rfl⟩))
      obtain ⟨i1,i2,i3,i4,hit⟩:=hrg.iter
      have hI1:I93 s1 M w3:=by
        have hne:∀ b,(∃ es c,w.heap[b]? = some (.map es c))->b≠r:=fun b ⟨es,c,e⟩ e'=>by rw [e',hit] at e;cases e
        have hmoK:w3.heap[mO]? = w.heap[mO]? := hold mO (by have:=hrg.map.block;obtain ⟨es,c,e⟩:=this;exact (Array.getElem?_eq_some_iff.1 e).1) (hne mO hrg.map.block)
        subst hs1e
        subst hs0
        refine ⟨(hold b5 (hlt b5 (.inl rfl)) fun e=>?_).trans hIB.h5,hrg.map.keep hmoK,fun x hx=>?_,fun x hx=>?_⟩
        . have h5:=hIB.h5
          have h5:w.heap[b5]? = some (.cells #[.map (some mO)] 95 (0,0)):=h5
          rw [e,hit] at h5;cases h5
        . cases hx
          have h6:=hIB.nx _ rfl
          exact ⟨h6.1.keep (hold _ (by obtain ⟨es,c,e⟩:=h6.1.block;exact (Array.getElem?_eq_some_iff.1 e).1) (hne _ h6.1.block)),h6.2⟩
        . cases hx
          exact hrg1.keep (hold1 mO (by obtain ⟨es,c,e⟩:=hrg1.map.block;exact (Array.getElem?_eq_some_iff.1 e).1)) (hold1 r (by obtain ⟨_,_,_,_,e⟩:=hrg1.iter;exact (Array.getElem?_eq_some_iff.1 e).1))
      have hgo:Fr (fun k=>k<w.heap.size/\¬ H93.hb (show H93.σ from s0) w k) w w3:=by
        refine ⟨?_,?_,?_,by have:=hgr.size;omega,fun k hk=>hold k hk.1 fun e=>hk.2 (e ▸ hri)⟩
        . rw [hw3,hw2];show w1.os=w.os;exact hgr.os
        . rw [hw3,hw2];show w1.tape=w.tape;exact hgr.tape
        . rw [hw3,hw2];show w1.output=w.output;exact hgr.output
      obtain ⟨f1,f2⟩:=hG.grow (s':=(show H93.σ from s1)) (M':=M) (w':=w3) hgo hI1 (fun b o h=>.inr h) (fun b o h=>.inl h) (fun b hb=>.inl (hsub b hb)) fun b hb o=>(hG.2.2 b (hsub b hb)).2.1 o
      have hnM:∀ o,¬ M w1.heap.size o:=fun o h=>by have:=hG.2.1.lt _ o h;omega
      have U:∀ {j:Nat},10<=j->j≠36->get (stB b5 mN r tab row n f) j = .und:=fun h1 h2=>stB_und b5 mN r tab row n f h1 h2
      have f3:=good_free (good_free (good_free (good_free (good_free f2 (d:=37) (U (by omega) (by omega)) (.tuple #[.bool true,.int .i64 k,pairV pa pb])) (d:=38) (U (by omega) (by omega)) (.bool true)) (d:=39) (U (by omega) (by omega)) (.tuple #[.int .i64 k,pairV pa pb])) (d:=40) (U (by omega) (by omega)) (.int .i64 k)) (d:=41) (U (by omega) (by omega)) (pairV pa pb)
      have f4:=good_put f3 (d:=11) (by rw [U (by omega) (by omega)];rfl) (x:=.ref (.prod (.int .i64) (.prod (.int .i64) .unit)) (pa,pb,())) rfl (v:=.pointer (some ⟨w1.heap.size,0,none⟩)) ⟨w1.heap.size,0,[.int .i64 pa,.int .i64 pb],rfl,rfl,fun j hj=>⟨by
        rw [cell_of_row w3 _ _ _ _ _ c3,Nat.zero_add]
        match j,hj with
        | 0,_=>rfl
        | 1,_=>rfl,hnM _⟩,[_],[_],rfl,rfl,[_],[],rfl,rfl,rfl⟩
      have f5:=good_put f4 (d:=10) (by rfl) (x:=.d (.int .i64) k) rfl (v:=.int .i64 k) ⟨[_],rfl,rfl⟩
      have hcp:ConcH H93 F M0 w0 (⟨b5,mO,gO,nO,some (mN,g,nN),some (r,lf1,cnt1)⟩:SS93) (st93 b5 mN r tab row n f k (pa,pb,())) ah5 w3:=by
        refine ⟨hfr.trans f1,M,?_⟩
        rw [<- hs1e,hah5,hah4,hah3,hah2,hah1,hag2,hag1]
        exact f5
      have hb:=hbd _ _ hgk
      have hwr:IntKind.i64.wrap (k+n)=k+n:=wr (by omega) (by omega)
      have hrk:rng (IntKind.i64.wrap (k+n))=true:=by
        rw [hwr]
        simp only [rng,Bool.and_eq_true,decide_eq_true_eq]
        omega
      refine p93_wp (p:=(pa,pb)) hrk (by omega) hI hpl hcp fun a4 w4 hc4=>?_
      refine ih _ (nN+1) lf1 cnt1 a4 w4 (by omega) (by omega) (fun j=>?_) hc4
      rw [hwr]
      unfold upd
      by_cases e:j=k+n
      . subst e
        rw [if_pos rfl,show k+n - n=k by omega,hgk]
        have h7:lf1 k=false:=by rw [hlf1];simp
        have h8:g (k+n)=gN (k+n):=by
          rw [hg (k+n),show k+n - n=k by omega,hgk]
          simp only [hlk,if_true]
        simp only [h7,Bool.false_eq_true,if_false]
        unfold merged
        rw [h8]
      . rw [if_neg e,hg j]
        have h9:lf1 (j - n)=lf (j - n):=by
          rw [hlf1]
          have:((j - n)==k)=false:=by
            simp only [beq_eq_false_iff_ne]
            omega
          simp [this]
        rw [h9]
end
end Go.V
namespace Go.V
open Go.Proofs
open Go.RowKit (Below)
abbrev CLOX:Ty:=.clo 77 .unit (.prod (.ptr TABTY) (.prod (.ptr (.int .i64)) .unit))
noncomputable def bdB (g:GF):Bool := @decide (Bd g) (Classical.propDecidable _)
theorem bdB_iff {g:GF}:bdB g=true<->Bd g:=by unfold bdB;exact @decide_eq_true_iff _ (Classical.propDecidable _)
noncomputable def okN (tab:TAB) (n:Int):Bool:=(match f63 (tab,(n,())) with | .ret _=>true|_=>false) && (decide (-1000000<=n) && decide (n<=1000000))
noncomputable def figN (tab:TAB) (n:Int):Int:=match f63 (tab,(n,())) with | .ret f=>f|_=>0
noncomputable def nextS (s:SS93) (tab:TAB) (n:Int):SS93:=match s.nx with
  | some x=>{ s with nx:=some (x.1,stepG s.gO n (figN tab n) x.2.1,x.2.2+s.nO),it:=none }
  | none=>s
noncomputable def E93 {ρ:Type} (k:X->H93.σ->St->Out ρ) (s:H93.σ) (st:St):Out ρ :=
  match get st 2,get st 5,get st 6,get st 7,get st 8,(show SS93 from s).nx,(show SS93 from s).it with
  | .ref (.prod (.prod (.int .i64) (.prod (.int .i64) (.prod (.list (.int .i64)) (.prod (.list (.int .i64)) .unit)))) (.prod (.int .i64) .unit)) tab,.d .raw v5,.d (.int .i64) _,.ref .raw v7,.d (.int .i64) n,some x,none =>
    bif (st.length==78 && (isV v5 (ptrV (show SS93 from s).b5) && isV v7 (.map (some x.1)))) && (okN tab n && (bdB (show SS93 from s).gO && decide (x.2.2+(show SS93 from s).nO<1000000))) then k .normal (nextS s tab n) (List.replicate 78 .und) else .fail
  | _,_,_,_,_,_,_=>.fail
theorem MapG.mono {g:GF} {n n' m:Nat} {w:World} (h:MapG g n m w) (hn:n<=n'):MapG g n' m w:=by
  obtain ⟨D,h1,h2⟩:=h
  exact ⟨D,h1.mono hn,h2⟩
theorem E93_ok:EOKR Try.prog H93 round93 (fun {ρ} k s st=>E93 k s st):=by
  intro ρ fin hf hr F M0 w0 ro nn hI hpl k Q hQ s st a w hc h
  have h:E93 k s st=fin:=h
  unfold E93 at h
  split at h
  rotate_left
  . exact absurd h.symm hf
  rename_i tab v5 row v7 n x e2 e5 e6 e7 e8 enx eit
  obtain ⟨b5,mO,gO,nO,nx,it⟩:=s
  have enx:nx=some x:=enx
  have eit:it=none:=eit
  subst enx eit
  obtain ⟨mN,gN,nN⟩:=x
  have h:(bif (st.length==78 && (isV v5 (ptrV b5) && isV v7 (.map (some mN)))) && (okN tab n && (bdB gO && decide (nN+nO<1000000))) then k .normal (nextS ⟨b5,mO,gO,nO,some (mN,gN,nN),none⟩ tab n) (List.replicate 78 .und) else .fail)=fin:=h
  cases hcd:(st.length==78 && (isV v5 (ptrV b5) && isV v7 (.map (some mN)))) && (okN tab n && (bdB gO && decide (nN+nO<1000000))) with
  | false=>rw [hcd] at h;exact absurd h.symm hf
  | true =>
  rw [hcd] at h
  have hfin:k .normal (nextS ⟨b5,mO,gO,nO,some (mN,gN,nN),none⟩ tab n) (List.replicate 78 .und)=fin:=h
  simp only [Bool.and_eq_true,beq_iff_eq,decide_eq_true_eq] at hcd
  obtain ⟨⟨hl,hv5,hv7⟩,hok,hbd,hnn⟩:=hcd
  have hv5:=isV_eq hv5
  have hv7:=isV_eq hv7
  subst hv5 hv7
  have hbd:=bdB_iff.1 hbd
  unfold okN at hok
  simp only [Bool.and_eq_true,decide_eq_true_eq] at hok
  obtain ⟨hok,hn1,hn2⟩:=hok
  have hfig:f63 (tab,(n,())) = .ret (figN tab n):=by
    unfold figN
    cases e:f63 (tab,(n,())) with
    | ret f=>rfl
    | pan p=>rw [e] at hok;cases hok
    | fail=>rw [e] at hok;cases hok
  have hmask:ConcH H93 F M0 w0 (⟨b5,mO,gO,nO,some (mN,gN,nN),none⟩:SS93) (stM b5 mN tab row n) a w:=by
    obtain ⟨hf',M,hG⟩:=hc
    refine ⟨hf',M,hG.unfocus (Fr.refl _ _) (hG.focus.mask (by rw [hl];rfl) (fun j=>?_) fun j v hj=>(hpl j v hj).elim)⟩
    by_cases hu:get (stM b5 mN tab row n) j = .und
    . exact .inl hu
    . refine .inr (.inl ?_)
      have:j=2\/j=5\/j=6\/j=7\/j=8:=by
        by_cases hj:j<9
        . have:j=0\/j=1\/j=3\/j=4\/(j=2\/j=5\/j=6\/j=7\/j=8):=by omega
          rcases this with rfl|rfl|rfl|rfl|h
          . exact absurd rfl hu
          . exact absurd rfl hu
          . exact absurd rfl hu
          . exact absurd rfl hu
          . exact h
        . exfalso
          apply hu
          have e1:stM b5 mN tab row n=[.und,.und,.ref TABTY tab,.und,.und,.d .raw (ptrV b5),.d (.int .i64) row,.ref .raw (.map (some mN)),.d (.int .i64) n]++List.replicate 69 .und:=rfl
          rw [e1]
          unfold get
          rw [List.getD_eq_getElem?_getD,List.getElem?_append_right (by show 9<=j;omega),List.getElem?_replicate]
          split<;>rfl
      rcases this with rfl|rfl|rfl|rfl|rfl
      . rw [e2];rfl
      . rw [e5];rfl
      . rw [e6];rfl
      . rw [e7];rfl
      . rw [e8];rfl
  rw [round93_eq]
  refine wpIn_block (wpIn_seq (r8_wp hI hpl hfig hmask fun a1 w1 hc1=>?_))
  refine wpIn_seq (r9_wp hc1 fun r cnt a2 w2 hc2 hcnt=>?_)
  refine wpIn_block (wpIn_loop_rounds (cnt+1) (loop93 hI hpl (gN:=gN) (nMax:=nN+nO) hbd hn1 hn2 hnn (fun nN' lf cnt' a3 w3 hc3 hle=>?_) (cnt+1) gN nN _ cnt a2 w2 (by omega) (by omega) (fun j=>?_) hc2))
  . -- behind the loop: the iterator is let go
    refine hQ .normal (nextS ⟨b5,mO,gO,nO,some (mN,gN,nN),none⟩ tab n) (List.replicate 78 .und) a3 w3 ?_ hfin
    obtain ⟨hf',M,hG⟩:=hc3
    have hI3:I93 _ M w3:=hG.1
    have hsub:∀ b,hb93 (nextS ⟨b5,mO,gO,nO,some (mN,gN,nN),none⟩ tab n) b->hb93 (⟨b5,mO,gO,nO,some (mN,stepG gO n (figN tab n) gN,nN'),some (r,lf,cnt')⟩:SS93) b:=fun b hb=>by
      rcases hb with h|h|⟨y,hy,h⟩|⟨y,hy,h⟩
      . exact .inl h
      . exact .inr (.inl h)
      . cases hy;exact .inr (.inr (.inl ⟨_,rfl,h⟩))
      . cases hy
    have hG2:=hG.unfocus (Fr.refl _ _) (hG.focus.mask (st':=List.replicate 78 .und) rfl (fun j=>.inl (get_repl _ _)) fun j v hj=>(hpl j v hj).elim)
    exact ⟨hf',M,⟨hI3.h5,hI3.mo,fun x hx=>by cases hx;exact ⟨(hI3.nx _ rfl).1.mono hle,(hI3.nx _ rfl).2⟩,fun x hx=>by cases hx⟩,hG2.2.1,fun b hb=>hG2.2.2 b (hsub b hb)⟩
  . split
    . rename_i p hp
      exact (if_pos (show (gO _).isSome=true by rw [hp];rfl)).symm
    . rfl
end Go.V
namespace Go.V
open Go.Proofs
open Go.RowKit (Below)
theorem clo_ptrX {M:Mut} {w:World} {v:Value} {tab:TAB} {row:Int} (h:RepV M w CLOX v ((),tab,row,())):∃ pt pr,v = .func (.func 77) #[] #[pt,pr]/\RepV M w (.ptr TABTY) pt tab/\RepV M w (.ptr (.int .i64)) pr row:=by
  obtain ⟨cs,rfl,fc,pc,rfl,h1,c1,c2,rfl,h2,c3,c4,rfl,h3,h4⟩:=h
  have h1:fc=[]:=h1
  have h4:c4=[]:=h4
  subst h1
  subst h4
  have hl:c1.length=1:=RepC.length _ _ _ h2
  have hl3:c3.length=1:=RepC.length _ _ _ h3
  match c1,hl with
  | [pt],_ =>
  match c3,hl3 with
  | [pr],_=>exact ⟨pt,pr,rfl,⟨[pt],rfl,h2⟩,⟨[pr],rfl,h3⟩⟩
noncomputable def stQ (b5 mN:Nat) (tab:TAB) (row:Int):St:=[.und,.und,.ref TABTY tab,.und,.und,.d .raw (ptrV b5),.d (.int .i64) row,.ref .raw (.map (some mN))]++List.replicate 22 .und++[.d CLOX ((),tab,row,())]++List.replicate 47 .und
noncomputable def runG (gO:GF) (tab:TAB) (g:GF) (ys:List Int):GF:=ys.foldl (fun g n=>stepG gO n (figN tab n) g) g
noncomputable def sameN (s s0:SS93):Bool := @decide (∃ x y g n,s0.nx=some x/\s0.it=none/\y=(x.1,g,n)/\s={ s0 with nx:=some y }) (Classical.propDecidable _)
theorem sameN_iff {s s0:SS93}:sameN s s0=true<->∃ x y g n,s0.nx=some x/\s0.it=none/\y=(x.1,g,n)/\s={ s0 with nx:=some y }:=by unfold sameN;exact @decide_eq_true_iff _ (Classical.propDecidable _)
noncomputable def kQ (b5 mN:Nat) (tab:TAB) (row:Int) (z:SS93) (x:X) (s:H93.σ) (st:St):Out Unit :=
  match x with
  | .normal=>bif same st (stQ b5 mN tab row) && same (show SS93 from s) z then .ret () else .fail
  | _=>.fail
theorem stQ_rng (b5 mN:Nat) (tab:TAB) (row:Int):(stQ b5 mN tab row).map rngS=stQ b5 mN tab row:=by rfl
theorem assign93_eq (b5 mN:Nat) (tab:TAB) (row:Int) (N:Nat) (k:X->St->Out Unit) (y:Int):vexec Try.prog (phi []) [] N assign93 (some []) k ((stQ b5 mN tab row).set 31 (.d (.int .i64) y))=k .normal (((stQ b5 mN tab row).set 31 (.d (.int .i64) y)).set 8 (.d (.int .i64) y)):=by kernel_rfl
theorem vhr93 (N:Nat) (k:X->H93.σ->St->Out Unit) (s:H93.σ) (st:St):vhr Try.prog H93 (phi []) [] N round93 [([],⟨fun {ρ} k s st=>E93 k s st⟩)] k s st=E93 k s st:=by
  rw [round93_eq]
  rfl
theorem E93_at (b5 mN mO:Nat) (gO:GF) (nO:Nat) (g:GF) (n:Nat) (tab:TAB) (row:Int) (k:X->H93.σ->St->Out Unit) (y:Int):E93 k (⟨b5,mO,gO,nO,some (mN,g,n),none⟩:SS93) (((stQ b5 mN tab row).set 31 (.d (.int .i64) y)).set 8 (.d (.int .i64) y))=bif okN tab y && (bdB gO && decide (n+nO<1000000)) then k .normal (⟨b5,mO,gO,nO,some (mN,stepG gO y (figN tab y) g,n+nO),none⟩:SS93) (List.replicate 78 .und) else .fail:=by
  show (bif (_==78 && (isV (ptrV b5) (ptrV b5) && isV (.map (some mN)) (.map (some mN)))) && (okN tab y && (bdB gO && decide (n+nO<1000000))) then _ else _)=_
  rw [isV_refl,isV_refl]
  rfl
theorem rng93 (b5 mN mO:Nat) (gO:GF) (nO:Nat) (tab:TAB) (row:Int) (N:Nat) (g0:GF) (n0:Nat) (z:SS93) (hbd:bdB gO=true):∀ (ys:List Int) (g:GF) (n:Nat),ys.all (okN tab)=true->n+ys.length * nO<1000000->z=⟨b5,mO,gO,nO,some (mN,runG gO tab g ys,n+ys.length * nO),none⟩ ->
    vrngH (fun k' s st=>vexec Try.prog (phi []) [] N assign93 (some []) (fun x st=>match x with | .normal=>vhr Try.prog H93 (phi []) [] N round93 [([],⟨fun {ρ} k s st=>E93 k s st⟩)] k' s st|_=>.fail) st) (fun s=>sameN s ⟨b5,mO,gO,nO,some (mN,g0,n0),none⟩) 31 (.int .i64) (stQ b5 mN tab row) (kQ b5 mN tab row z) ys (⟨b5,mO,gO,nO,some (mN,g,n),none⟩:SS93) = .ret ():=by
  intro ys
  induction ys with
  | nil =>
    intro g n h1 h2 h3
    show kQ b5 mN tab row z .normal _ (stQ b5 mN tab row)=_
    subst h3
    unfold kQ
    rw [same_refl,Bool.true_and]
    have e:same (⟨b5,mO,gO,nO,some (mN,g,n),none⟩:SS93) ⟨b5,mO,gO,nO,some (mN,runG gO tab g [],n+List.length (α:=Int) [] * nO),none⟩=true:=by
      have:n+List.length (α:=Int) [] * nO=n:=by simp
      rw [this]
      exact same_refl _
    exact (congrArg (fun c=>bif c then Out.ret () else Out.fail) e).trans rfl
  | cons y ys ih =>
    intro g n h1 h2 h3
    refine (vrngH_cons (σ:=H93.σ) _ _ _ _ _ _ _ _ _).trans ?_
    have hy:okN tab y=true/\ys.all (okN tab)=true:=by simpa using h1
    have hl:(List.length (α:=Int) (y :: ys)) * nO=nO+ys.length * nO:=by rw [List.length_cons,Nat.succ_mul,Nat.add_comm]
    have h2:n+(List.length (α:=Int) (y :: ys)) * nO<1000000:=h2
    rw [hl] at h2
    show vexec Try.prog (phi []) [] N assign93 (some []) _ ((stQ b5 mN tab row).set 31 (.d (.int .i64) y))=_
    rw [assign93_eq]
    show vhr Try.prog H93 (phi []) [] N round93 _ _ _ _=_
    refine (vhr93 N _ _ _).trans ((E93_at b5 mN mO gO nO g n tab row _ y).trans ?_)
    rw [hy.1,hbd,decide_eq_true (show n+nO<1000000 by omega)]
    simp only [Bool.and_self,cond_true]
    have e:sameN (⟨b5,mO,gO,nO,some (mN,stepG gO y (figN tab y) g,n+nO),none⟩:SS93) ⟨b5,mO,gO,nO,some (mN,g0,n0),none⟩=true:=sameN_iff.2 ⟨_,_,_,_,rfl,rfl,rfl,rfl⟩
    refine (congrArg (fun c=>bif c then _ else Out.fail) e).trans ?_
    refine ih (stepG gO y (figN tab y) g) (n+nO) hy.2 (by omega) ?_
    rw [h3]
    have e2:n+(List.length (α:=Int) (y :: ys)) * nO=n+nO+ys.length * nO:=by rw [hl];omega
    show (⟨b5,mO,gO,nO,some (mN,runG gO tab g (y :: ys),n+(List.length (α:=Int) (y :: ys)) * nO),none⟩:SS93)=_
    rw [e2]
    rfl
section
variable {n : Nat} {Q : Exit → Act → World → Prop} {F : Nat → Prop} {M0 : Base} {w0 : World} {a : Act} {w : World} {b5 mN mO nO : Nat} {gO : GF} {tab : TAB} {row : Int}
theorem range93_wp (hI:∀ w,Fr F w0 w->Inv.I Try.prog w) (hpl:∀ j v,M0.pin j=some v->False) {lo hi:Int} {cnt:Nat} (h137:f137 (tab,(row,())) = .ret (lo,hi,())) (hcnt:lo+cnt=hi+1) (hlo : -1000000000<lo) (hhi:hi<1000000000) (hfu:cnt<fuel)
    (hok:(exactL lo hi cnt).all (okN tab)=true) (hbd:bdB gO=true) (hnn:cnt * nO<1000000)
    (hc:ConcH H93 F M0 w0 (⟨b5,mO,gO,nO,some (mN,(fun _=>none),0),none⟩:SS93) (stQ b5 mN tab row) a w)
    (hQ:∀ a' w',ConcH H93 F M0 w0 (⟨b5,mO,gO,nO,some (mN,runG gO tab (fun _=>none) (exactL lo hi cnt),cnt * nO),none⟩:SS93) (stQ b5 mN tab row) a' w'->Q .normal a' w') :
    (Code.rangeFunc (.tmp 30) #[31] assign93 round93).wpIn (fen none) n Try.prog Q a w:=by
  obtain ⟨hfr,M,hG⟩:=hc
  have s30:=hG.2.1.slot 30
  have e30:get (stQ b5 mN tab row) 30 = .d CLOX ((),tab,row,()):=rfl
  rw [e30] at s30
  obtain ⟨pt,pr,hv,hp,hp2⟩:=clo_ptrX (show RepV M w CLOX (tm a 30) ((),tab,row,()) from s30)
  have hit:=iter136 hp hp2 h137 hcnt hlo hhi hfu
  have hz:0+(exactL lo hi cnt).length * nO=cnt * nO:=by rw [exactL_len];omega
  refine range_okH (P:=Try.prog) (ρ:=Unit) (H:=H93) (Φ:=phi []) [] 1 (fin:=.ret ()) (by simp) (by simp) (T:=[([],⟨fun {ρ} k s st=>E93 k s st⟩)]) (code_ok (phi_ok all_nil) mixed [] 1 (by simp) assign93) (vhr_ok (phi_ok all_nil) mixed [] 1 (by simp) (by simp) round93) (allR_cons (c':=round93) rfl E93_ok allR_nil)
    hI hpl (same:=fun s=>sameN s ⟨b5,mO,gO,nO,some (mN,(fun _=>none),0),none⟩) (s0:=(⟨b5,mO,gO,nO,some (mN,(fun _=>none),0),none⟩:SS93)) (fun _ _ _ _ h=>h) (fun s M w b hs hI hb=>?_) (sameN_iff.2 ⟨_,_,_,_,rfl,rfl,rfl,rfl⟩) (k:=kQ b5 mN tab row ⟨b5,mO,gO,nO,some (mN,runG gO tab (fun _=>none) (exactL lo hi cnt),cnt * nO),none⟩) (fun x s st a' w' hc' hk=>?_) (st:=stQ b5 mN tab row) hfr hG rfl (show a.eval (.tmp 30)=_ from hv) hit ?_ ?_
  . refine .inl ?_
    obtain ⟨x,y,g,m,e1,e2,e3,e4⟩:=sameN_iff.1 hs
    have e4:s=_:=e4
    subst e4
    cases e1
    subst e3
    have hb:hb93 _ b:=hb
    rcases hb with h|h|⟨y,hy,h⟩|⟨y,hy,h⟩
    . exact .inl h
    . exact .inr (.inl h)
    . cases hy;exact .inr (.inr (.inl ⟨_,rfl,h⟩))
    . cases hy
  . unfold kQ at hk
    split at hk
    rotate_left
    . cases hk
    cases hcd:(same st (stQ b5 mN tab row) && same (show SS93 from s) ⟨b5,mO,gO,nO,some (mN,runG gO tab (fun _=>none) (exactL lo hi cnt),cnt * nO),none⟩) with
    | false=>rw [hcd] at hk;cases hk
    | true =>
    rw [Bool.and_eq_true] at hcd
    have e1:=same_eq hcd.1
    have e2:s=_:=same_eq hcd.2
    subst e1
    rw [e2] at hc'
    exact hQ a' w' hc'
  . rw [stQ_rng];rfl
  . rw [stQ_rng]
    refine rng93 b5 mN mO gO nO tab row 1 _ _ _ hbd (exactL lo hi cnt) _ 0 hok (by rw [hz];exact hnn) ?_
    rw [hz]
end
end Go.V
namespace Go.V
open Go.Proofs
open Go.RowKit (Below)
noncomputable def r93_3:Array Oper:=regAt 3 (bodyOf Try.f45)
noncomputable def r93_4:Array Oper:=regAt 4 (bodyOf Try.f45)
noncomputable def r93_5:Array Oper:=regAt 5 (bodyOf Try.f45)
theorem info93_5:r93_5.toList.map opInfo=[(some 27,.makeMap 95 none,none),
  (some 7,.alloc 95,none),
  (none,.store 95 (.tmp 7) (.tmp 27),none)]:=by kernel_rfl
noncomputable def r93_6:Array Oper:=regAt 6 (bodyOf Try.f45)
noncomputable def r93_17:Array Oper:=regAt 17 (bodyOf Try.f45)
theorem info93_17:r93_17.toList.map opInfo=[(some 76,.load 95 (.tmp 7),none),
  (none,.store 95 (.tmp 5) (.tmp 76),none)]:=by kernel_rfl
theorem mask_keep {st st':St} (keep:List Nat) (h1:((List.range st'.length).all fun k=>keep.contains k || (match get st' k with | .und=>true|_=>false))=true) (h2:∀ k∈keep,get st' k=dropS (get st k)) (j:Nat):get st' j = .und\/get st' j=dropS (get st j):=by
  by_cases hj:j<st'.length
  . have h3:=List.all_eq_true.1 h1 j (List.mem_range.2 hj)
    rw [Bool.or_eq_true] at h3
    rcases h3 with h3|h3
    . exact .inr (h2 j (by simpa using h3))
    . left
      revert h3
      cases e:get st' j with
      | und=>exact fun _=>rfl
      | _=>exact fun h=>by cases h
  . left
    unfold get
    rw [List.getD_eq_getElem?_getD,List.getElem?_eq_none (by omega)]
    rfl
section
variable {H : Hole} {F : Nat → Prop} {M0 : Base} {w0 : World} {s : H.σ} {st st' : St} {a : Act} {w : World} {n : Nat} {Q : Exit → Act → World → Prop}
theorem conc_mask (hc:ConcH H F M0 w0 s st a w) (hpl:∀ j v,M0.pin j=some v->False) (hl:st'.length=st.length) (hm:∀ j,get st' j = .und\/get st' j=dropS (get st j)):ConcH H F M0 w0 s st' a w:=by
  obtain ⟨hf,M,hG⟩:=hc
  exact ⟨hf,M,hG.unfocus (Fr.refl _ _) (hG.focus.mask hl (fun j=>(hm j).imp id .inl) fun j v hj=>(hpl j v hj).elim)⟩
theorem vstep {l:List Spec} (hl:∀ sp∈l,Contract Try.prog sp) {c:Code} (h:∀ (k:X->H.σ->St->Out Unit),vhq Try.prog H (phi l) [] 1 c [] k s st=k .normal s st') (hI:∀ w,Fr F w0 w->Inv.I Try.prog w) (hpl:∀ j v,M0.pin j=some v->False)
    (hc:ConcH H F M0 w0 s st a w) (hQ:∀ a' w',ConcH H F M0 w0 s st' a' w'->Q .normal a' w'):c.wpIn (fen none) n Try.prog Q a w:=by
  have h0:=h (fun x s1 st1=>match x with | .normal=>bif same s1 s && same st1 st' then .ret () else .fail|_=>.fail)
  simp only [same_refl,Bool.and_self,cond_true] at h0
  refine vhq_ok (phi_ok hl) mixed [] 1 (fin:=.ret ()) (by simp) (by simp) c [] allQ_nil F M0 w0 n hI hpl _ _ ?_ _ _ _ _ hc h0
  intro x s1 st1 a' w' hc' hx
  split at hx
  rotate_left
  . cases hx
  cases h1:(same s1 s && same st1 st') with
  | false=>rw [h1] at hx;cases hx
  | true =>
  rw [Bool.and_eq_true] at h1
  have e1:=same_eq h1.1
  have e2:=same_eq h1.2
  subst e1 e2
  exact hQ a' w' hc'
end
noncomputable def stH (b5:Nat) (tab:TAB) (row:Int):St:=[.und,.und,.ref TABTY tab,.und,.und,.d .raw (ptrV b5),.d (.int .i64) row]++List.replicate 71 .und
noncomputable def lenR (tab:TAB):Int:=lenI tab.1.2.2.2.1
section
variable (b5 mN : Nat) (tab : TAB) (row : Int) (s : H93.σ) (k : X → H93.σ → St → Out Unit)
theorem e93_3:vhq Try.prog H93 (phi []) [] 1 (.region 3 r93_3 false) [] k s (stH b5 tab row)=k .normal s [.und,.und,.ref (.prod (.prod (.int .i64) (.prod (.int .i64) (.prod (.list (.int .i64)) (.prod (.list (.int .i64)) .unit)))) (.prod (.int .i64) .unit)) tab,.und,.und,.d .raw (ptrV b5),.d (.int .i64) row,.und,.und,.und,.und,.und,.und,.und,.und,.und,.und,.und,.und,.d (.int .i64) row,.ref (.prod (.int .i64) (.prod (.int .i64) (.prod (.list (.int .i64)) (.prod (.list (.int .i64)) .unit)))) tab.1,.ref (.list (.int .i64)) tab.1.2.2.2.1,.d (.list (.int .i64)) tab.1.2.2.2.1,.d (.int .i64) (lenI tab.1.2.2.2.1),.d .bool (decide (row<(lenI tab.1.2.2.2.1))),.und,.und,.und,.und,.und,.und,.und,.und,.und,.und,.und,.und,.und,.und,.und,.und,.und,.und,.und,.und,.und,.und,.und,.und,.und,.und,.und,.und,.und,.und,.und,.und,.und,.und,.und,.und,.und,.und,.und,.und,.und,.und,.und,.und,.und,.und,.und,.und,.und,.und,.und,.und,.und]:=by kernel_rfl
theorem e93_4:vhq Try.prog H93 (phi []) [] 1 (.region 4 r93_4 false) [] k s (stH b5 tab row)=k .normal s [.und,.und,.ref (.prod (.prod (.int .i64) (.prod (.int .i64) (.prod (.list (.int .i64)) (.prod (.list (.int .i64)) .unit)))) (.prod (.int .i64) .unit)) tab,.und,.und,.d .raw (ptrV b5),.d (.int .i64) (IntKind.i64.wrap (row+(1:Int))),.und,.und,.und,.und,.und,.und,.und,.und,.und,.und,.und,.und,.und,.und,.und,.und,.und,.und,.d (.int .i64) row,.d (.int .i64) (IntKind.i64.wrap (row+(1:Int))),.und,.und,.und,.und,.und,.und,.und,.und,.und,.und,.und,.und,.und,.und,.und,.und,.und,.und,.und,.und,.und,.und,.und,.und,.und,.und,.und,.und,.und,.und,.und,.und,.und,.und,.und,.und,.und,.und,.und,.und,.und,.und,.und,.und,.und,.und,.und,.und,.und,.und,.und]:=by kernel_rfl
theorem e93_6:vhq Try.prog H93 (phi [sp122a]) [] 1 (.region 6 r93_6 false) [] k s ((stH b5 tab row).set 7 (.ref .raw (.map (some mN))))=k .normal s [.und,.und,.ref (.prod (.prod (.int .i64) (.prod (.int .i64) (.prod (.list (.int .i64)) (.prod (.list (.int .i64)) .unit)))) (.prod (.int .i64) .unit)) tab,.und,.und,.d .raw (ptrV b5),.d (.int .i64) row,.ref .raw (.map (some mN)),.und,.und,.und,.und,.und,.und,.und,.und,.und,.und,.und,.und,.und,.und,.und,.und,.und,.und,.und,.und,.d (.prod (.prod (.int .i64) (.prod (.int .i64) (.prod (.list (.int .i64)) (.prod (.list (.int .i64)) .unit)))) (.prod (.int .i64) .unit)) tab,.d (.int .i64) row,.d (.clo 77 .unit (.prod (.ptr (.prod (.prod (.int .i64) (.prod (.int .i64) (.prod (.list (.int .i64)) (.prod (.list (.int .i64)) .unit)))) (.prod (.int .i64) .unit))) (.prod (.ptr (.int .i64)) .unit))) ((),(tab,(row,()))),.und,.und,.und,.und,.und,.und,.und,.und,.und,.und,.und,.und,.und,.und,.und,.und,.und,.und,.und,.und,.und,.und,.und,.und,.und,.und,.und,.und,.und,.und,.und,.und,.und,.und,.und,.und,.und,.und,.und,.und,.und,.und,.und,.und,.und,.und,.und]:=by kernel_rfl
end
end Go.V
namespace Go.V
open Go.Proofs
open Go.RowKit (Below)
theorem ex_alloc136 {a:Act} {w:World} {o:Oper} (ho:o.op = .alloc 95):(execOp a.eval o).run Try.prog w = .ok (.value (.pointer (some ⟨w.heap.size,0,none⟩))) (w.alloc (.cells #[.map none] 95)):=by
  simp only [execOp,ho]
  simp [go_sem]
theorem stH_und (b5:Nat) (tab:TAB) (row:Int) {j:Nat} (h:7<=j):get (stH b5 tab row) j = .und:=by
  have e1:stH b5 tab row=[.und,.und,.ref TABTY tab,.und,.und,.d .raw (ptrV b5),.d (.int .i64) row]++List.replicate 71 .und:=rfl
  rw [e1]
  unfold get
  rw [List.getD_eq_getElem?_getD,List.getElem?_append_right (by show 7<=j;omega),List.getElem?_replicate]
  split<;>rfl
section
variable {n : Nat} {Q : Exit → Act → World → Prop} {F : Nat → Prop} {M0 : Base} {w0 : World} {a : Act} {w : World} {b5 mN mO nO nN : Nat} {gO gN : GF} {tab : TAB} {row : Int}
theorem r5_wp (hc:ConcH H93 F M0 w0 (⟨b5,mO,gO,nO,none,none⟩:SS93) (stH b5 tab row) a w) (hQ:∀ mN a' w',ConcH H93 F M0 w0 (⟨b5,mO,gO,nO,some (mN,(fun _=>none),0),none⟩:SS93) ((stH b5 tab row).set 7 (.ref .raw (.map (some mN)))) a' w'->Q .normal a' w') :
    (Code.region 5 r93_5 false).wpIn (fen none) n Try.prog Q a w:=by
  have hsz:=size93 hc (N:=78) rfl
  obtain ⟨hfr,M,hG⟩:=hc
  have hIB:I93 _ M w:=hG.1
  refine wpIn_region ?_
  rw [show r93_5.size=3 by kernel_rfl]
  show wpOpsIn (fen none) n Try.prog r93_5 _ [0,1,2] a w
  obtain ⟨o0,i0,d0,p0,q0⟩:=infoAt info93_5 (i:=0) rfl
  simp only at d0 p0 q0
  rw [wpOpsIn_cons]
  refine opr_value i0 (wanted_none q0) (fun c h=>by rw [p0] at h;cases h) (ex_makeMap p0) ?_
  rw [d0]
  obtain ⟨a1,ha1⟩:∃ zz:Act,zz=Act.put a (some 27) (.map (some w.heap.size)):=⟨_,rfl⟩
  rw [<- ha1]
  have z1:a1.tmps.size=78:=by rw [ha1,size_put];exact hsz
  obtain ⟨w1,hw1⟩:∃ b:World,b=w.alloc (.map #[] 0):=⟨_,rfl⟩
  rw [<- hw1]
  have l1:w1.heap.size=w.heap.size+1:=by rw [hw1];simp
  obtain ⟨o1,i1,d1,p1,q1⟩:=infoAt info93_5 (i:=1) rfl
  simp only at d1 p1 q1
  rw [wpOpsIn_cons]
  refine opr_value i1 (wanted_none q1) (fun c h=>by rw [p1] at h;cases h) (ex_alloc136 p1) ?_
  rw [d1]
  obtain ⟨a2,ha2⟩:∃ zz:Act,zz=Act.put a1 (some 7) (.pointer (some ⟨w1.heap.size,0,none⟩)):=⟨_,rfl⟩
  rw [<- ha2]
  have z2:a2.tmps.size=78:=by rw [ha2,size_put];exact z1
  obtain ⟨w2,hw2⟩:∃ b:World,b=w1.alloc (.cells #[.map none] 95):=⟨_,rfl⟩
  rw [<- hw2]
  have l2:w2.heap.size=w.heap.size+2:=by rw [hw2];simp;omega
  have c2:w2.heap[w1.heap.size]? = some (.cells #[.map none] 95 (0,0)):=by rw [hw2];exact heap_alloc_new w1 _
  have t2_7:tm a2 7 = .pointer (some ⟨w1.heap.size,0,none⟩):=by rw [ha2];exact tm_put_same (by omega)
  have t1_27:tm a1 27 = .map (some w.heap.size):=by rw [ha1];exact tm_put_same (by omega)
  have t2_27:tm a2 27 = .map (some w.heap.size):=by rw [ha2,tm_put_other (by omega)];exact t1_27
  obtain ⟨o2,i2,d2,p2,q2⟩:=infoAt info93_5 (i:=2) rfl
  simp only at d2 p2 q2
  rw [wpOpsIn_cons]
  refine opr_skipped i2 (wanted_none q2) (fun c h=>by rw [p2] at h;cases h) (ex_store1 (t:=.opq) (by kernel_rfl) rfl p2 t2_7 t2_27 rfl rfl c2) ?_
  rw [d2,put_none]
  obtain ⟨w3,hw3⟩:∃ b:World,b=w2.setRow w1.heap.size #[.map (some w.heap.size)]:=⟨_,rfl⟩
  rw [<- hw3]
  have l3:w3.heap.size=w.heap.size+2:=by rw [hw3,setRow_size];exact l2
  have c3:w3.heap[w1.heap.size]? = some (.cells #[.map (some w.heap.size)] 95 (0,0)):=by rw [hw3];exact setRow_same c2
  have m3:w3.heap[w.heap.size]? = some (.map #[] 0):=by rw [hw3,setRow_other (by omega),hw2,heap_alloc_old w1 _ (by omega),hw1];exact heap_alloc_new w _
  have hold:∀ k,k<w.heap.size->w3.heap[k]? = w.heap[k]? := fun k hk=>by rw [hw3,setRow_other (by omega),hw2,heap_alloc_old w1 _ (by omega),hw1,heap_alloc_old w _ hk]
  obtain ⟨M',hM'⟩:∃ M':Mut,M'=fun b o=>M b o\/b=w.heap.size:=⟨_,rfl⟩
  obtain ⟨s1,hs1⟩:∃ s1:SS93,s1=⟨b5,mO,gO,nO,some (w.heap.size,(fun _=>none),0),none⟩:=⟨_,rfl⟩
  have hlt:∀ b,hb93 (⟨b5,mO,gO,nO,none,none⟩:SS93) b->b<w.heap.size:=fun b hb=>H93.lt _ M w b hIB hb
  have hsub:∀ b,hb93 s1 b->hb93 (⟨b5,mO,gO,nO,none,none⟩:SS93) b\/b=w.heap.size:=fun b hb=>by
    subst hs1
    rcases hb with h|h|⟨y,hy,h⟩|⟨y,hy,h⟩
    . exact .inl (.inl h)
    . exact .inl (.inr (.inl h))
    . cases hy;exact .inr h
    . cases hy
  have hmO:mO<w.heap.size:=hlt mO (.inr (.inl rfl))
  have hI1:I93 s1 M' w3:=by
    have hk:=I93.keep (M':=M') hIB (fun b hb=>hold b (hlt b hb))
    subst hs1
    refine ⟨hk.h5,hk.mo,fun x hx=>?_,fun x hx=>by cases hx⟩
    cases hx
    exact ⟨⟨.map [],⟨#[],0,m3,⟨by simp,MapKept.stamped_empty 0,by simp⟩,Nat.le_refl _,rfl⟩,Reads.empty⟩,by show w.heap.size≠mO;omega⟩
  have hgo:Fr (fun k=>k<w.heap.size/\¬ H93.hb (show H93.σ from (⟨b5,mO,gO,nO,none,none⟩:SS93)) w k) w w3:=by
    refine ⟨?_,?_,?_,by omega,fun k hk=>hold k hk.1⟩
    all_goals (rw [hw3,hw2,hw1];rfl)
  obtain ⟨f1,f2⟩:=hG.grow (s':=(show H93.σ from s1)) (M':=M') (w':=w3) hgo hI1 (fun b o h=>by rw [hM'];exact .inr (.inl h)) (fun b o h=>by
    rw [hM'] at h
    rcases h with h|h
    . exact .inl h
    . exact .inr ⟨by omega,by omega⟩) (fun b hb=>(hsub b hb).imp id fun h=>by omega) fun b hb o=>by
    rw [hM']
    rcases hsub b hb with h|h
    . exact .inl ((hG.2.2 b h).2.1 o)
    . exact .inr h
  have hnM:∀ o,¬ M' w1.heap.size o:=fun o h=>by
    rw [hM'] at h
    rcases h with h|h
    . have:=hG.2.1.lt _ o h;omega
    . omega
  have f3:=good_free f2 (d:=27) (stH_und b5 tab row (by omega)) (.map (some w.heap.size))
  have f4:=good_put f3 (d:=7) (by rw [stH_und b5 tab row (by omega)];rfl) (x:=.ref .raw (.map (some w.heap.size))) rfl (v:=.pointer (some ⟨w1.heap.size,0,none⟩)) ⟨w1.heap.size,0,[.map (some w.heap.size)],rfl,rfl,fun j hj=>⟨by
    rw [cell_of_row w3 _ _ _ _ _ c3,Nat.zero_add]
    match j,hj with
    | 0,_=>rfl,hnM _⟩,rfl,rfl,rfl⟩
  subst hs1
  refine hQ w.heap.size _ w3 ⟨hfr.trans f1,M',?_⟩
  rw [ha2,ha1]
  exact f4
set_option maxRecDepth 20000 in
theorem r17_wp (hc:ConcH H93 F M0 w0 (⟨b5,mO,gO,nO,some (mN,gN,nN),none⟩:SS93) (stQ b5 mN tab row) a w) (hpl:∀ j v,M0.pin j=some v->False) (hQ:∀ a' w',ConcH H93 F M0 w0 (⟨b5,mN,gN,nN,none,none⟩:SS93) (stH b5 tab row) a' w'->Q .normal a' w') :
    (Code.region 17 r93_17 false).wpIn (fen none) n Try.prog Q a w:=by
  have t5:tm a 5=ptrV b5:=raw93 hc rfl
  have hsz:=size93 hc (N:=78) rfl
  obtain ⟨b7,o7,h7p,h7c⟩:∃ b o,tm a 7 = .pointer (some ⟨b,o,none⟩)/\w.cell? ⟨b,o,none⟩=some (.map (some mN)):=by
    obtain ⟨_,M,hG⟩:=hc
    have s7:=hG.2.1.slot 7
    have e7:get (stQ b5 mN tab row) 7 = .ref .raw (.map (some mN)):=rfl
    rw [e7] at s7
    obtain ⟨b,o,cs,e1,e2,e3,e4⟩:=s7
    have e5:=e4.1
    subst e5
    exact ⟨b,o,e1,(e3 0 (by show 0<1;omega)).1⟩
  have hcH:ConcH H93 F M0 w0 (⟨b5,mO,gO,nO,some (mN,gN,nN),none⟩:SS93) (stH b5 tab row) a w:=conc_mask hc hpl rfl (mask_keep [2,5,6] rfl fun k hk=>by
    simp only [List.mem_cons,List.not_mem_nil,or_false] at hk
    rcases hk with rfl|rfl|rfl<;>rfl)
  obtain ⟨hfr,M,hG⟩:=hcH
  have hIB:I93 _ M w:=hG.1
  have h5:w.heap[b5]? = some (.cells #[.map (some mO)] 95 (0,0)):=hIB.h5
  refine wpIn_region ?_
  rw [show r93_17.size=2 by kernel_rfl]
  show wpOpsIn (fen none) n Try.prog r93_17 _ [0,1] a w
  obtain ⟨o0,i0,d0,p0,q0⟩:=infoAt info93_17 (i:=0) rfl
  simp only at d0 p0 q0
  rw [wpOpsIn_cons]
  refine opr_value i0 (wanted_none q0) (fun c h=>by rw [p0] at h;cases h) (ex_loadC (t:=.opq) (by kernel_rfl) p0 h7p rfl rfl h7c) ?_
  rw [d0]
  obtain ⟨a1,ha1⟩:∃ zz:Act,zz=Act.put a (some 76) (.map (some mN)):=⟨_,rfl⟩
  rw [<- ha1]
  have z1:a1.tmps.size=78:=by rw [ha1,size_put];exact hsz
  have t1_5:tm a1 5 = .pointer (some ⟨b5,0,none⟩):=by rw [ha1,tm_put_other (by omega)];exact t5
  have t1_76:tm a1 76 = .map (some mN):=by rw [ha1];exact tm_put_same (by omega)
  obtain ⟨o1,i1,d1,p1,q1⟩:=infoAt info93_17 (i:=1) rfl
  simp only at d1 p1 q1
  rw [wpOpsIn_cons]
  refine opr_skipped i1 (wanted_none q1) (fun c h=>by rw [p1] at h;cases h) (ex_store1 (t:=.opq) (by kernel_rfl) rfl p1 t1_5 t1_76 rfl rfl h5) ?_
  rw [d1,put_none]
  obtain ⟨w1,hw1⟩:∃ b:World,b=w.setRow b5 #[.map (some mN)]:=⟨_,rfl⟩
  rw [<- hw1]
  have hold:∀ k,k≠b5->w1.heap[k]? = w.heap[k]? := fun k hk=>by rw [hw1];exact setRow_other hk
  have hnx:=hIB.nx _ rfl
  have hsub:∀ b,hb93 (⟨b5,mN,gN,nN,none,none⟩:SS93) b->hb93 (⟨b5,mO,gO,nO,some (mN,gN,nN),none⟩:SS93) b:=fun b hb=>by
    rcases hb with h|h|⟨y,hy,h⟩|⟨y,hy,h⟩
    . exact .inl h
    . exact .inr (.inr (.inl ⟨_,rfl,h⟩))
    . cases hy
    . cases hy
  have hI1:I93 (⟨b5,mN,gN,nN,none,none⟩:SS93) M w1:=by
    refine ⟨by rw [hw1];exact setRow_same h5,hnx.1.keep (hold mN fun e=>?_),fun x hx=>(by cases hx),fun x hx=>(by cases hx)⟩
    obtain ⟨es,c,e1⟩:=hnx.1.block
    rw [show (mN,gN,nN).1=b5 from e,h5] at e1
    cases e1
  have hgo:Fr (fun k=>k<w.heap.size/\¬ H93.hb (show H93.σ from (⟨b5,mO,gO,nO,some (mN,gN,nN),none⟩:SS93)) w k) w w1:=by
    refine ⟨?_,?_,?_,by rw [hw1,setRow_size];exact Nat.le_refl _,fun k hk=>hold k fun e=>hk.2 (.inl e)⟩
    all_goals (rw [hw1];rfl)
  obtain ⟨f1,f2⟩:=hG.grow (s':=(show H93.σ from (⟨b5,mN,gN,nN,none,none⟩:SS93))) (M':=M) (w':=w1) hgo hI1 (fun b o h=>.inr h) (fun b o h=>.inl h) (fun b hb=>.inl (hsub b hb)) fun b hb o=>(hG.2.2 b (hsub b hb)).2.1 o
  have f3:=good_free f2 (d:=76) (stH_und b5 tab row (by omega)) (.map (some mN))
  refine hQ _ w1 ⟨hfr.trans f1,M,?_⟩
  rw [ha1]
  exact f3
end
noncomputable def sumsR (tab:TAB):Nat->Int->GF->Nat->Out (GF×Nat)
  | 0,_,_,_=>.fail
  | m+1,row,gO,nO=>match decide (row<lenR tab) with
    | false=>.ret (gO,nO)
    | true=>match f137 (tab,(row,())) with
      | .ret sp=>bif ((decide (-1000000000<sp.1) && decide (sp.2.1<1000000000)) && (decide (sp.1<=sp.2.1+1) && decide ((sp.2.1+1 - sp.1).toNat<fuel))) && (((exactL sp.1 sp.2.1 (sp.2.1+1 - sp.1).toNat).all (okN tab) && bdB gO) && decide ((sp.2.1+1 - sp.1).toNat * nO<1000000)) then
          sumsR tab m (IntKind.i64.wrap (row+1)) (runG gO tab (fun _=>none) (exactL sp.1 sp.2.1 (sp.2.1+1 - sp.1).toNat)) ((sp.2.1+1 - sp.1).toNat * nO) else .fail
      | _=>.fail
noncomputable def lbR:Code:=.seq (.seq (.region 3 r93_3 false) (.cond (.tmp 24) .skip (.exit 0))) (.seq (.block 1 (.seq (.region 5 r93_5 false) (.seq (.seq (.region 6 r93_6 false) (.block 2 (.rangeFunc (.tmp 30) #[31] assign93 round93))) (.region 17 r93_17 false)))) (.region 4 r93_4 false))
section
variable {n : Nat} {Q : Exit → Act → World → Prop} {F : Nat → Prop} {M0 : Base} {w0 : World} {b5 : Nat} {tab : TAB}
set_option maxRecDepth 20000 in
theorem loopR (hI:∀ w,Fr F w0 w->Inv.I Try.prog w) (hpl:∀ j v,M0.pin j=some v->False) {z:GF×Nat} (hQ:∀ mO row a' w',ConcH H93 F M0 w0 (⟨b5,mO,z.1,z.2,none,none⟩:SS93) (stH b5 tab row) a' w'->Q (.exit 0) a' w') :
    ∀ (m:Nat) (row:Int) (mO:Nat) (gO:GF) (nO:Nat) (a:Act) (w:World),sumsR tab m row gO nO = .ret z->ConcH H93 F M0 w0 (⟨b5,mO,gO,nO,none,none⟩:SS93) (stH b5 tab row) a w->Code.roundsIn (fen none) n Try.prog lbR Q m a w:=by
  intro m
  induction m with
  | zero=>intro row mO gO nO a w h;cases h
  | succ m ih =>
    intro row mO gO nO a w h hc
    unfold sumsR at h
    rw [roundsIn_succ]
    show Code.wpIn (fen none) n Try.prog (.seq (.seq (.region 3 r93_3 false) (.cond (.tmp 24) .skip (.exit 0))) (.seq (.block 1 (.seq (.region 5 r93_5 false) (.seq (.seq (.region 6 r93_6 false) (.block 2 (.rangeFunc (.tmp 30) #[31] assign93 round93))) (.region 17 r93_17 false)))) (.region 4 r93_4 false))) _ a w
    refine wpIn_seq (wpIn_seq (vstep (l:=[]) all_nil (fun k=>e93_3 b5 tab row _ k) hI hpl hc fun a1 w1 hc1=>?_))
    have t24:a1.eval (.tmp 24) = .bool (decide (row<lenR tab)):=by
      obtain ⟨_,M,hG⟩:=hc1
      exact slot_bool (hG.2.1.slot 24)
    have hcH:ConcH H93 F M0 w0 (⟨b5,mO,gO,nO,none,none⟩:SS93) (stH b5 tab row) a1 w1:=conc_mask hc1 hpl rfl (mask_keep [2,5,6] rfl fun k hk=>by
      simp only [List.mem_cons,List.not_mem_nil,or_false] at hk
      rcases hk with rfl|rfl|rfl<;>rfl)
    refine wpIn_cond t24 ?_
    cases hd:decide (row<lenR tab) with
    | false =>
      rw [hd] at h
      cases h
      simp only [Bool.false_eq_true,if_false]
      exact wpIn_exit (hQ mO row a1 w1 hcH)
    | true =>
    rw [hd] at h
    dsimp only at h
    simp only [if_true]
    cases h137:f137 (tab,(row,())) with
    | fail=>rw [h137] at h;cases h
    | pan p=>rw [h137] at h;cases h
    | ret sp =>
    rw [h137] at h
    obtain ⟨lo,hi,_⟩:=sp
    dsimp only at h
    obtain ⟨hcd,h⟩:=bif_of h
    simp only [Bool.and_eq_true,decide_eq_true_eq] at hcd
    obtain ⟨⟨⟨h1,h2⟩,h3,h4⟩,⟨h5,h6⟩,h7⟩:=hcd
    refine wpIn_skip (wpIn_seq (wpIn_block (wpIn_seq (r5_wp hcH fun mN a2 w2 hc2=>?_))))
    refine wpIn_seq (wpIn_seq (vstep (l:=[sp122a]) (all_cons c122a all_nil) (fun k=>e93_6 b5 mN tab row _ k) hI hpl hc2 fun a3 w3 hc3=>?_))
    have hcQ:ConcH H93 F M0 w0 (⟨b5,mO,gO,nO,some (mN,(fun _=>none),0),none⟩:SS93) (stQ b5 mN tab row) a3 w3:=conc_mask hc3 hpl rfl (mask_keep [2,5,6,7,30] rfl fun k hk=>by
      simp only [List.mem_cons,List.not_mem_nil,or_false] at hk
      rcases hk with rfl|rfl|rfl|rfl|rfl<;>rfl)
    refine wpIn_block (range93_wp (cnt:=(hi+1 - lo).toNat) hI hpl h137 (by omega) h1 h2 h4 h5 h6 h7 hcQ fun a4 w4 hc4=>?_)
    refine r17_wp hc4 hpl fun a5 w5 hc5=>?_
    show Code.wpIn (fen none) n Try.prog (.region 4 r93_4 false) _ a5 w5
    refine vstep (l:=[]) all_nil (fun k=>e93_4 b5 tab row _ k) hI hpl hc5 fun a6 w6 hc6=>?_
    refine ih (IntKind.i64.wrap (row+1)) mN _ _ a6 w6 h (conc_mask hc6 hpl rfl (mask_keep [2,5,6] rfl fun k hk=>?_))
    simp only [List.mem_cons,List.not_mem_nil,or_false] at hk
    rcases hk with rfl|rfl|rfl<;>rfl
end
end Go.V
namespace Go.V
open Go.Proofs
open Go.RowKit (Below)
noncomputable def r93_0:Array Oper:=regAt 0 (bodyOf Try.f45)
theorem info93_0:r93_0.toList.map opInfo=[(some 2,.box 66 (.tmp 0),none),
  (some 4,.assign (.const (.map none)),none)]:=by kernel_rfl
noncomputable def r93_1:Array Oper:=regAt 1 (bodyOf Try.f45)
theorem info93_1:r93_1.toList.map opInfo=[(some 15,.makeMap 95 none,none),
  (some 16,.build 45 #[],none),
  (none,.insert 95 (.tmp 15) (.const (.int .i64 0)) (.tmp 16),none),
  (some 17,.move (.tmp 15),none),
  (some 5,.alloc 95,none),
  (none,.store 95 (.tmp 5) (.tmp 17),none)]:=by kernel_rfl
noncomputable def r93_2:Array Oper:=regAt 2 (bodyOf Try.f45)
theorem info93_2:r93_2.toList.map opInfo=[(some 18,.move (.tmp 1),none),
  (some 6,.assign (.tmp 18),none)]:=by kernel_rfl
noncomputable def r93_18:Array Oper:=regAt 18 (bodyOf Try.f45)
theorem info93_18:r93_18.toList.map opInfo=[(some 77,.load 95 (.tmp 5),none),
  (some 4,.assign (.tmp 77),none)]:=by kernel_rfl
theorem some93:Try.f45.body=some (bodyOf Try.f45):=by kernel_rfl
theorem body93_at:bodyOf Try.f45 = .seq (.region 0 r93_0 false) (.seq (.region 1 r93_1 false) (.seq (.seq (.region 2 r93_2 false) (.block 0 (.loop lbR))) (.seq (.region 18 r93_18 false) .ret))):=by kernel_rfl
theorem results93 {a:Act} {w:World}:(results Try.f45 a.tmps).run Try.prog w = .ok (tm a 4) w:=by
  have e:tm a 4=a.tmps[4]?.getD undef:=by unfold tm;simp
  rw [e]
  simp [results,Try.results45,go_sem]
section
variable {a : Act} {w : World} {o : Oper}
theorem ex_box106 {p:Nat} (ho:o.op = .box 66 (.tmp p)) {x0 x1 x2 x3 x4:Value} (h:tm a p = .agg #[x0,x1,x2,x3,x4]):(execOp a.eval o).run Try.prog w = .ok (.value (.pointer (some ⟨w.heap.size,0,none⟩))) (w.alloc (.cells #[x0,x1,x2,x3,x4] 66)):=by
  have e:a.eval (.tmp p) = .agg #[x0,x1,x2,x3,x4]:=h
  simp only [execOp,ho,e]
  simp [go_sem]
theorem ex_build45 (ho:o.op = .build 45 #[]):(execOp a.eval o).run Try.prog w = .ok (.value (pairV 0 0)) w:=by
  simp only [execOp,ho]
  simp [go_sem,pairV]
theorem ex_insert136 {p q:Nat} {k:Value} (ho:o.op = .insert 95 (.tmp p) (.const k) (.tmp q)) {m v:Value} {w':World} (h1:tm a p=m) (h2:tm a q=v) (hr:(Instr.mapUpdate 95 m k v).run Try.prog w = .ok () w'):(execOp a.eval o).run Try.prog w = .ok .skip w':=by
  have e1:a.eval (.tmp p)=m:=h1
  have e2:a.eval (.tmp q)=v:=h2
  have e3:a.eval (.const k)=k:=rfl
  simp [execOp,ho,e1,e2,e3,hr]
end
def g93:GF:=upd (fun _=>none) 0 (0,0)
theorem empty_map {w:World} {m:Nat} (h:w.heap[m]? = some (.map #[] 0)):MapG (fun _=>none) 0 m w:=⟨.map [],⟨#[],0,h,⟨by simp,MapKept.stamped_empty 0,by simp⟩,Nat.le_refl _,rfl⟩,Reads.empty⟩
section
variable {n : Nat} {Q : Exit → Act → World → Prop} {M : Mut} {w : World} {v0 : Value} {tab : TAB}
set_option maxHeartbeats 1000000 in
theorem front93 (hrep:RepV M w TABTY v0 tab) (hlt:∀ b o,M b o->b<w.heap.size) (hN:∀ b5 mO a' w',ConcH H93 (· < w.heap.size) (base0 M w) w (⟨b5,mO,g93,1,none,none⟩:SS93) (stH b5 tab 0) a' w'->(Code.block 0 (.loop lbR)).wpIn (fen none) n Try.prog (Exit.then (Code.wpIn (fen none) n Try.prog (.seq (.region 18 r93_18 false) .ret) Q) Q) a' w') :
    (bodyOf Try.f45).wpIn (fen none) n Try.prog Q { tmps := #[v0,.int .i64 0]++Array.replicate (78 - 2) undef,defers:=[] } w:=by
  obtain ⟨cs,rfl,hc⟩:=hrep
  obtain ⟨x0,x1,x2,x3,x4,rfl⟩:∃ x0 x1 x2 x3 x4,cs=[x0,x1,x2,x3,x4]:=by
    have hl:cs.length=5:=RepC.length _ _ _ hc
    match cs,hl with
    | [x0,x1,x2,x3,x4],_=>exact ⟨x0,x1,x2,x3,x4,rfl⟩
  obtain ⟨a0,ha0⟩:∃ a0:Act,a0={ tmps := #[toVal TABTY [x0,x1,x2,x3,x4],.int .i64 0]++Array.replicate (78 - 2) undef,defers:=[] }:=⟨_,rfl⟩
  rw [<- ha0]
  have z0:a0.tmps.size=78:=by rw [ha0];simp
  have t0:tm a0 0 = .agg #[x0,x1,x2,x3,x4]:=by rw [ha0];simp [tm,toVal,Ty.agg]
  have t1:tm a0 1 = .int .i64 0:=by rw [ha0];simp [tm]
  have hd0:a0.defers=[]:=by rw [ha0]
  rw [body93_at]
  refine wpIn_seq ?_
  refine wpIn_region ?_
  rw [show r93_0.size=2 by kernel_rfl]
  show wpOpsIn (fen none) n Try.prog r93_0 _ [0,1] a0 w
  obtain ⟨or0,ir0,dr0,pr0,qr0⟩:=infoAt info93_0 (i:=0) rfl
  simp only at dr0 pr0 qr0
  rw [wpOpsIn_cons]
  refine opr_value ir0 (wanted_none qr0) (fun c h=>by rw [pr0] at h;cases h) (ex_box106 pr0 t0) ?_
  rw [dr0]
  obtain ⟨ar1,har1⟩:∃ zz:Act,zz=Act.put a0 (some 2) (.pointer (some ⟨w.heap.size,0,none⟩)):=⟨_,rfl⟩
  rw [<- har1]
  have zr1:ar1.tmps.size=78:=by rw [har1,size_put];exact z0
  obtain ⟨w1,hw1⟩:∃ b:World,b=w.alloc (.cells #[x0,x1,x2,x3,x4] 66):=⟨_,rfl⟩
  rw [<- hw1]
  have l1:w1.heap.size=w.heap.size+1:=by rw [hw1];simp
  obtain ⟨or1,ir1,dr1,pr1,qr1⟩:=infoAt info93_0 (i:=1) rfl
  simp only at dr1 pr1 qr1
  rw [wpOpsIn_cons]
  refine opr_value ir1 (wanted_none qr1) (fun c h=>by rw [pr1] at h;cases h) (ex_assignK pr1) ?_
  rw [dr1]
  obtain ⟨ar2,har2⟩:∃ zz:Act,zz=Act.put ar1 (some 4) (.map none):=⟨_,rfl⟩
  rw [<- har2]
  have zr2:ar2.tmps.size=78:=by rw [har2,size_put];exact zr1
  have tr1_1:tm ar1 1 = .int .i64 0:=by rw [har1,tm_put_other (by omega)];exact t1
  have tr2_1:tm ar2 1 = .int .i64 0:=by rw [har2,tm_put_other (by omega)];exact tr1_1
  have tr1_2:tm ar1 2 = .pointer (some ⟨w.heap.size,0,none⟩):=by rw [har1];exact tm_put_same (by omega)
  have tr2_2:tm ar2 2 = .pointer (some ⟨w.heap.size,0,none⟩):=by rw [har2,tm_put_other (by omega)];exact tr1_2
  refine wpIn_seq ?_
  refine wpIn_region ?_
  rw [show r93_1.size=6 by kernel_rfl]
  show wpOpsIn (fen none) n Try.prog r93_1 _ [0,1,2,3,4,5] ar2 w1
  obtain ⟨ot0,it0,dt0,pt0,qt0⟩:=infoAt info93_1 (i:=0) rfl
  simp only at dt0 pt0 qt0
  rw [wpOpsIn_cons]
  refine opr_value it0 (wanted_none qt0) (fun c h=>by rw [pt0] at h;cases h) (ex_makeMap pt0) ?_
  rw [dt0]
  obtain ⟨at1,hat1⟩:∃ zz:Act,zz=Act.put ar2 (some 15) (.map (some w1.heap.size)):=⟨_,rfl⟩
  rw [<- hat1]
  have zt1:at1.tmps.size=78:=by rw [hat1,size_put];exact zr2
  obtain ⟨w2,hw2⟩:∃ b:World,b=w1.alloc (.map #[] 0):=⟨_,rfl⟩
  rw [<- hw2]
  have l2:w2.heap.size=w.heap.size+2:=by rw [hw2];simp;omega
  have m2:w2.heap[w1.heap.size]? = some (.map #[] 0):=by rw [hw2];exact heap_alloc_new w1 _
  obtain ⟨ot1,it1,dt1,pt1,qt1⟩:=infoAt info93_1 (i:=1) rfl
  simp only at dt1 pt1 qt1
  rw [wpOpsIn_cons]
  refine opr_value it1 (wanted_none qt1) (fun c h=>by rw [pt1] at h;cases h) (ex_build45 pt1) ?_
  rw [dt1]
  obtain ⟨at2,hat2⟩:∃ zz:Act,zz=Act.put at1 (some 16) (pairV 0 0):=⟨_,rfl⟩
  rw [<- hat2]
  have zt2:at2.tmps.size=78:=by rw [hat2,size_put];exact zt1
  obtain ⟨es,cl,hput,hnew⟩:=(empty_map m2).put (by omega) (k:=0) (by decide) 0 0
  have tt1_15:tm at1 15 = .map (some w1.heap.size):=by rw [hat1];exact tm_put_same (by omega)
  have tt2_15:tm at2 15 = .map (some w1.heap.size):=by rw [hat2,tm_put_other (by omega)];exact tt1_15
  have tt2_16:tm at2 16=pairV 0 0:=by rw [hat2];exact tm_put_same (by omega)
  obtain ⟨ot2,it2,dt2,pt2,qt2⟩:=infoAt info93_1 (i:=2) rfl
  simp only at dt2 pt2 qt2
  rw [wpOpsIn_cons]
  refine opr_skipped it2 (wanted_none qt2) (fun c h=>by rw [pt2] at h;cases h) (ex_insert136 pt2 tt2_15 tt2_16 hput) ?_
  rw [dt2,put_none]
  obtain ⟨w3,hw3⟩:∃ b:World,b=w2.putObj w1.heap.size (.map es cl):=⟨_,rfl⟩
  rw [<- hw3]
  have l3:w3.heap.size=w.heap.size+2:=by rw [hw3];simp;omega
  have m3:w3.heap[w1.heap.size]? = some (.map es cl):=by rw [hw3];exact World.putObj_heap_same (by omega)
  obtain ⟨ot3,it3,dt3,pt3,qt3⟩:=infoAt info93_1 (i:=3) rfl
  simp only at dt3 pt3 qt3
  rw [wpOpsIn_cons]
  refine opr_value it3 (wanted_none qt3) (fun c h=>by rw [pt3] at h;cases h) (ex_move pt3) ?_
  rw [dt3,tt2_15]
  obtain ⟨at3,hat3⟩:∃ zz:Act,zz=Act.put at2 (some 17) (.map (some w1.heap.size)):=⟨_,rfl⟩
  rw [<- hat3]
  have zt3:at3.tmps.size=78:=by rw [hat3,size_put];exact zt2
  obtain ⟨ot4,it4,dt4,pt4,qt4⟩:=infoAt info93_1 (i:=4) rfl
  simp only at dt4 pt4 qt4
  rw [wpOpsIn_cons]
  refine opr_value it4 (wanted_none qt4) (fun c h=>by rw [pt4] at h;cases h) (ex_alloc136 pt4) ?_
  rw [dt4]
  obtain ⟨at4,hat4⟩:∃ zz:Act,zz=Act.put at3 (some 5) (.pointer (some ⟨w3.heap.size,0,none⟩)):=⟨_,rfl⟩
  rw [<- hat4]
  have zt4:at4.tmps.size=78:=by rw [hat4,size_put];exact zt3
  obtain ⟨w4,hw4⟩:∃ b:World,b=w3.alloc (.cells #[.map none] 95):=⟨_,rfl⟩
  rw [<- hw4]
  have l4:w4.heap.size=w.heap.size+3:=by rw [hw4];simp;omega
  have c4:w4.heap[w3.heap.size]? = some (.cells #[.map none] 95 (0,0)):=by rw [hw4];exact heap_alloc_new w3 _
  have tt4_5:tm at4 5 = .pointer (some ⟨w3.heap.size,0,none⟩):=by rw [hat4];exact tm_put_same (by omega)
  have tt3_17:tm at3 17 = .map (some w1.heap.size):=by rw [hat3];exact tm_put_same (by omega)
  have tt4_17:tm at4 17 = .map (some w1.heap.size):=by rw [hat4,tm_put_other (by omega)];exact tt3_17
  obtain ⟨ot5,it5,dt5,pt5,qt5⟩:=infoAt info93_1 (i:=5) rfl
  simp only at dt5 pt5 qt5
  rw [wpOpsIn_cons]
  refine opr_skipped it5 (wanted_none qt5) (fun c h=>by rw [pt5] at h;cases h) (ex_store1 (t:=.opq) (by kernel_rfl) rfl pt5 tt4_5 tt4_17 rfl rfl c4) ?_
  rw [dt5,put_none]
  obtain ⟨w5,hw5⟩:∃ b:World,b=w4.setRow w3.heap.size #[.map (some w1.heap.size)]:=⟨_,rfl⟩
  rw [<- hw5]
  have l5:w5.heap.size=w.heap.size+3:=by rw [hw5,setRow_size];exact l4
  have tt1_1:tm at1 1 = .int .i64 0:=by rw [hat1,tm_put_other (by omega)];exact tr2_1
  have tt2_1:tm at2 1 = .int .i64 0:=by rw [hat2,tm_put_other (by omega)];exact tt1_1
  have tt3_1:tm at3 1 = .int .i64 0:=by rw [hat3,tm_put_other (by omega)];exact tt2_1
  have tt4_1:tm at4 1 = .int .i64 0:=by rw [hat4,tm_put_other (by omega)];exact tt3_1
  have tt1_2:tm at1 2 = .pointer (some ⟨w.heap.size,0,none⟩):=by rw [hat1,tm_put_other (by omega)];exact tr2_2
  have tt2_2:tm at2 2 = .pointer (some ⟨w.heap.size,0,none⟩):=by rw [hat2,tm_put_other (by omega)];exact tt1_2
  have tt3_2:tm at3 2 = .pointer (some ⟨w.heap.size,0,none⟩):=by rw [hat3,tm_put_other (by omega)];exact tt2_2
  have tt4_2:tm at4 2 = .pointer (some ⟨w.heap.size,0,none⟩):=by rw [hat4,tm_put_other (by omega)];exact tt3_2
  show Code.wpIn (fen none) n Try.prog (.seq (.seq (.region 2 r93_2 false) (.block 0 (.loop lbR))) (.seq (.region 18 r93_18 false) .ret)) _ at4 w5
  refine wpIn_seq (wpIn_seq ?_)
  refine wpIn_region ?_
  rw [show r93_2.size=2 by kernel_rfl]
  show wpOpsIn (fen none) n Try.prog r93_2 _ [0,1] at4 w5
  obtain ⟨ou0,iu0,du0,pu0,qu0⟩:=infoAt info93_2 (i:=0) rfl
  simp only at du0 pu0 qu0
  rw [wpOpsIn_cons]
  refine opr_value iu0 (wanted_none qu0) (fun c h=>by rw [pu0] at h;cases h) (ex_move pu0) ?_
  rw [du0,tt4_1]
  obtain ⟨au1,hau1⟩:∃ zz:Act,zz=Act.put at4 (some 18) (.int .i64 0):=⟨_,rfl⟩
  rw [<- hau1]
  have zu1:au1.tmps.size=78:=by rw [hau1,size_put];exact zt4
  have tu1_18:tm au1 18 = .int .i64 0:=by rw [hau1];exact tm_put_same (by omega)
  obtain ⟨ou1,iu1,du1,pu1,qu1⟩:=infoAt info93_2 (i:=1) rfl
  simp only at du1 pu1 qu1
  rw [wpOpsIn_cons]
  refine opr_value iu1 (wanted_none qu1) (fun c h=>by rw [pu1] at h;cases h) (ex_assign pu1) ?_
  rw [du1,tu1_18]
  obtain ⟨au2,hau2⟩:∃ zz:Act,zz=Act.put au1 (some 6) (.int .i64 0):=⟨_,rfl⟩
  rw [<- hau2]
  have zu2:au2.tmps.size=78:=by rw [hau2,size_put];exact zu1
  have tu1_2:tm au1 2 = .pointer (some ⟨w.heap.size,0,none⟩):=by rw [hau1,tm_put_other (by omega)];exact tt4_2
  have tu2_2:tm au2 2 = .pointer (some ⟨w.heap.size,0,none⟩):=by rw [hau2,tm_put_other (by omega)];exact tu1_2
  have tu1_5:tm au1 5 = .pointer (some ⟨w3.heap.size,0,none⟩):=by rw [hau1,tm_put_other (by omega)];exact tt4_5
  have tu2_5:tm au2 5 = .pointer (some ⟨w3.heap.size,0,none⟩):=by rw [hau2,tm_put_other (by omega)];exact tu1_5
  have tu2_6:tm au2 6 = .int .i64 0:=by rw [hau2];exact tm_put_same (by omega)
  have zL:au2.tmps.size=78:=zu2
  have dL:au2.defers=[]:=by rw [hau2,defers_put,hau1,defers_put,hat4,defers_put,hat3,defers_put,hat2,defers_put,hat1,defers_put,har2,defers_put,har1,defers_put,hd0]
  have k5:∀ k,k≠w3.heap.size->w5.heap[k]? = w4.heap[k]? := fun k h=>by rw [hw5];exact setRow_other h
  have k4:∀ k,k<w3.heap.size->w4.heap[k]? = w3.heap[k]? := fun k h=>by rw [hw4];exact heap_alloc_old w3 _ h
  have k3:∀ k,k≠w1.heap.size->w3.heap[k]? = w2.heap[k]? := fun k h=>by rw [hw3];exact World.putObj_heap_other h
  have k2:∀ k,k<w1.heap.size->w2.heap[k]? = w1.heap[k]? := fun k h=>by rw [hw2];exact heap_alloc_old w1 _ h
  have k1:∀ k,k<w.heap.size->w1.heap[k]? = w.heap[k]? := fun k h=>by rw [hw1];exact heap_alloc_old w _ h
  have b2:w5.heap[w.heap.size]? = some (.cells #[x0,x1,x2,x3,x4] 66 (0,0)):=by rw [k5 _ (by omega),k4 _ (by omega),k3 _ (by omega),k2 _ (by omega),hw1];exact heap_alloc_new w _
  have bm:w5.heap[w1.heap.size]? = some (.map es cl):=by rw [k5 _ (by omega),k4 _ (by omega)];exact m3
  have b5:w5.heap[w3.heap.size]? = some (.cells #[.map (some w1.heap.size)] 95 (0,0)):=by rw [hw5];exact setRow_same c4
  have hold:∀ k,k<w.heap.size->w5.heap[k]? = w.heap[k]? := fun k h=>by rw [k5 k (by omega),k4 k (by omega),k3 k (by omega),k2 k (by omega),k1 k h]
  have hfr:Fr (· < w.heap.size) w w5:=by
    refine ⟨?_,?_,?_,by omega,hold⟩
    all_goals (rw [hw5,hw4,hw3,hw2,hw1];rfl)
  obtain ⟨M',hM'⟩:∃ M':Mut,M'=fun b o=>M b o\/b=w1.heap.size\/b=w3.heap.size:=⟨_,rfl⟩
  have hst:Stable M w M' w5:=fun b o v e h=>by
    have hb:=cell_lt e
    refine ⟨(World.cell?_of_block (a:=⟨b,o,none⟩) (hold b hb)).trans e,fun h'=>?_⟩
    rw [hM'] at h'
    rcases h' with h'|h'|h'
    . exact h h'
    all_goals omega
  obtain ⟨s0,hs0⟩:∃ s0:SS93,s0=⟨w3.heap.size,w1.heap.size,g93,1,none,none⟩:=⟨_,rfl⟩
  have hq:∀ j,qs (get (stH w3.heap.size tab 0) j)=true:=fun j=>by
    by_cases hj:j<7
    . have:j=0\/j=1\/j=2\/j=3\/j=4\/j=5\/j=6:=by omega
      rcases this with rfl|rfl|rfl|rfl|rfl|rfl|rfl<;>rfl
    . rw [stH_und _ _ _ (by omega)];rfl
  have hIB:I93 s0 M' w5:=by
    subst hs0
    exact ⟨b5,hnew w5 bm,fun x hx=>(by cases hx),fun x hx=>(by cases hx)⟩
  have hbl:∀ b,hb93 s0 b->b=w1.heap.size\/b=w3.heap.size:=fun b hb=>by
    subst hs0
    rcases hb with h|h|⟨y,hy,h⟩|⟨y,hy,h⟩
    . exact .inr h
    . exact .inl h
    . cases hy
    . cases hy
  have hnM:∀ o,¬ M' w.heap.size o:=fun o h=>by
    rw [hM'] at h
    rcases h with h|h|h
    . have:=hlt _ o h;omega
    all_goals omega
  refine hN w3.heap.size w1.heap.size _ w5 ?_
  rw [<- hs0]
  refine ⟨hfr,M',hIB,⟨by rw [dL];trivial,zL.trans rfl,fun b hb=>by have:b<w.heap.size:=hb;omega,fun b o h=>hlt b o h,fun b o h=>by rw [hM'];exact .inl h,fun b o h=>?_,fun b o hF h=>?_,fun j=>?_,fun i k j l b h1 _=>absurd h1 (qs_owns hq),fun i k b h1=>absurd h1 (qs_owns hq),hst,fun j v hj=>(by cases hj),fun D hD=>Nat.le_of_not_lt hD⟩,fun b hb=>?_⟩
  . rw [hM'] at h
    rcases h with h|h|h
    . have:=hlt b o h;omega
    all_goals omega
  . rw [hM'] at h
    have hF:b<w.heap.size:=hF
    rcases h with h|h|h
    . exact h
    all_goals omega
  . by_cases hj:j=2\/j=5\/j=6
    . rcases hj with rfl|rfl|rfl
      . refine ⟨w.heap.size,0,[x0,x1,x2,x3,x4],tu2_2,rfl,fun k hk=>⟨?_,hnM _⟩,RepC.mono hst _ _ _ hc⟩
        rw [cell_of_row w5 _ _ _ _ _ b2,Nat.zero_add]
        match k,hk with
        | 0,_=>rfl
        | 1,_=>rfl
        | 2,_=>rfl
        | 3,_=>rfl
        | 4,_=>rfl
      . exact ⟨[_],tu2_5,rfl,rfl,rfl⟩
      . exact ⟨[_],tu2_6,rfl⟩
    . have e:get (stH w3.heap.size tab 0) j = .und:=by
        by_cases h8:j<7
        . have:j=0\/j=1\/j=3\/j=4:=by omega
          rcases this with rfl|rfl|rfl|rfl<;>rfl
        . exact stH_und _ _ _ (by omega)
      rw [e];trivial
  . have hb':=hbl b hb
    refine ⟨fun hF=>?_,fun o=>?_,fun i k ho=>absurd ho (qs_owns hq)⟩
    . have hF:b<w.heap.size:=hF
      omega
    . rw [hM']
      exact .inr hb'
end
theorem sums_calls {M:Mut} {w:World} {v0:Value} {tab:TAB} (hI:Inv.I Try.prog w) (hrep:RepV M w TABTY v0 tab) (hlt:∀ b o,M b o->b<w.heap.size) {g:GF} {k:Nat} (h:sumsR tab fuel 0 g93 1 = .ret (g,k)) :
    Calls Try.prog 45 #[v0,.int .i64 0] w fun e w'=>∃ m,e = .returned (.map (some m))/\Below w.heap.size w w'/\w.heap.size<=m/\MapG g k m w':=by
  refine callsIn_wide.1 (callsIn_of_wp_marks (n:=0) Try.func45 some93 trivial ?_)
  show (bodyOf Try.f45).wpIn (fen none) 0 Try.prog _ { tmps := #[v0,.int .i64 0]++Array.replicate (78 - 2) undef,defers:=[] } w
  refine front93 hrep hlt fun b5 mO0 a1 w1 hc1=>?_
  refine wpIn_block (wpIn_loop_rounds fuel (loopR (fun w' hw'=>Inv.below _ _ hI hw'.toBelow) (fun j v hj=>by cases hj) (fun mO row a2 w2 hc2=>?_) fuel 0 mO0 g93 1 a1 w1 h hc1))
  show Code.wpIn (fen none) 0 Try.prog (.seq (.region 18 r93_18 false) .ret) _ a2 w2
  have t5:tm a2 5=ptrV b5:=raw93 hc2 rfl
  have hsz:=size93 hc2 (N:=78) rfl
  obtain ⟨hfr,Mc,hG⟩:=hc2
  have hIB:I93 _ Mc w2:=hG.1
  have h5:w2.heap[b5]? = some (.cells #[.map (some mO)] 95 (0,0)):=hIB.h5
  have hmo:MapG g k mO w2:=hIB.mo
  refine wpIn_seq ?_
  refine wpIn_region ?_
  rw [show r93_18.size=2 by kernel_rfl]
  show wpOpsIn (fen none) 0 Try.prog r93_18 _ [0,1] a2 w2
  obtain ⟨ox0,ix0,dx0,px0,qx0⟩:=infoAt info93_18 (i:=0) rfl
  simp only at dx0 px0 qx0
  rw [wpOpsIn_cons]
  refine opr_value ix0 (wanted_none qx0) (fun c h=>by rw [px0] at h;cases h) (ex_load1 (T:=95) (t:=.opq) (by kernel_rfl) rfl rfl px0 t5 h5) ?_
  rw [dx0]
  obtain ⟨ax1,hax1⟩:∃ zz:Act,zz=Act.put a2 (some 77) (.map (some mO)):=⟨_,rfl⟩
  rw [<- hax1]
  have zx1:ax1.tmps.size=78:=by rw [hax1,size_put];exact hsz
  have tx1_77:tm ax1 77 = .map (some mO):=by rw [hax1];exact tm_put_same (by omega)
  obtain ⟨ox1,ix1,dx1,px1,qx1⟩:=infoAt info93_18 (i:=1) rfl
  simp only at dx1 px1 qx1
  rw [wpOpsIn_cons]
  refine opr_value ix1 (wanted_none qx1) (fun c h=>by rw [px1] at h;cases h) (ex_assign px1) ?_
  rw [dx1,tx1_77]
  obtain ⟨ax2,hax2⟩:∃ zz:Act,zz=Act.put ax1 (some 4) (.map (some mO)):=⟨_,rfl⟩
  rw [<- hax2]
  have zx2:ax2.tmps.size=78:=by rw [hax2,size_put];exact zx1
  have tx2_4:tm ax2 4 = .map (some mO):=by rw [hax2];exact tm_put_same (by omega)
  refine wpIn_ret ?_
  show LeavesInM (fen none) 0 Try.prog Try.f45 ax2.tmps _ ax2.defers .returning w2
  have dx:ax2.defers=a2.defers:=by rw [hax2,defers_put,hax1,defers_put]
  rw [dx]
  refine leave_marks (q:=fun D=>w.heap.size<=D) (by simp) (hG.2.1.defers.imp fun D hD=>hD) fun w4 hm=>?_
  obtain ⟨es,c,hmb⟩:=hmo.block
  have hmk:w4.heap[mO]? = w2.heap[mO]? := hm.block mO ⟨(Array.getElem?_eq_some_iff.1 hmb).1,fun _ c e=>by rw [hmb] at e;cases e⟩
  have hge:w.heap.size<=mO:=Nat.le_of_not_lt fun h=>(hG.2.2 mO (.inr (.inl rfl))).1 h
  refine ⟨.map (some mO),by rw [results93,tx2_4],mO,rfl,?_,hge,hmo.keep hmk⟩
  have h6:=hfr.toBelow
  exact ⟨hm.os.trans h6.os,hm.tape.trans h6.tape,hm.output.trans h6.output,Nat.le_trans h6.size hm.size,fun k hk=>(hm.block k ⟨Nat.lt_of_lt_of_le hk h6.size,fun hq=>by have hq:w.heap.size<=k:=hq;omega⟩).trans (h6.block k hk)⟩
end Go.V
namespace Go.V
open Go.Proofs
open Go.RowKit (Below)
structure Q61 where
  m:Nat
  r:Nat
  n:Nat
  cnt:Nat
  g:GF
  lf:Int->Bool
def H61:Hole where
  σ:=Option Q61
  hb s _ b:=∃ q,s=some q/\(b=q.m\/b=q.r)
  I s _ w:=∀ q,s=some q->RangeG q.g q.lf q.cnt q.n q.m q.r w
  keep s M w M' w' h _ hk:=fun q hq=>(h q hq).keep (hk _ ⟨q,hq,.inl rfl⟩) (hk _ ⟨q,hq,.inr rfl⟩)
  same s M w w' _ _ b h:=h
  lt s M w b h hb:=by
    obtain ⟨q,hq,e|e⟩:=hb
    . obtain ⟨es,c,h1⟩:=(h q hq).map.block
      rw [e];exact (Array.getElem?_eq_some_iff.1 h1).1
    . obtain ⟨_,_,_,_,h1⟩:=(h q hq).iter
      rw [e];exact (Array.getElem?_eq_some_iff.1 h1).1
  nd s M w b c h hb e0:=by
    obtain ⟨q,hq,e|e⟩:=hb
    . obtain ⟨es,c,h1⟩:=(h q hq).map.block
      rw [e,h1] at e0;cases e0
    . obtain ⟨_,_,_,_,h1⟩:=(h q hq).iter
      rw [e,h1] at e0;cases e0
section
variable {H : Hole} {F : Nat → Prop} {M0 : Base} {w0 : World} {s : H.σ} {st st' : St} {a : Act} {w : World} {n : Nat} {Q : Exit → Act → World → Prop}
theorem get_drop (st:St) (j:Nat):get (st.map dropS) j=dropS (get st j):=by
  unfold get
  rw [List.getD_eq_getElem?_getD,List.getD_eq_getElem?_getD,List.getElem?_map]
  cases st[j]? <;> rfl
theorem vstepH {l:List Spec} (hl:∀ sp∈l,Contract Try.prog sp) {c:Code} (hints:List (Nat×List Nat)) (U:List Nat) (h:∀ (k:X->H.σ->St->Out Unit),vhq Try.prog H (phi l) hints 1 c [] (fun x s st=>k x s ((undAll U st).map dropS)) s st=k .normal s st') (hI:∀ w,Fr F w0 w->Inv.I Try.prog w) (hpl:∀ j v,M0.pin j=some v->False)
    (hc:ConcH H F M0 w0 s st a w) (hQ:∀ a' w',ConcH H F M0 w0 s st' a' w'->Q .normal a' w'):c.wpIn (fen none) n Try.prog Q a w:=by
  have h0:=h (fun x s1 st1=>match x with | .normal=>bif same s1 s && same st1 st' then .ret () else .fail|_=>.fail)
  simp only [same_refl,Bool.and_self,cond_true] at h0
  refine vhq_ok (phi_ok hl) mixed hints 1 (fin:=.ret ()) (by simp) (by simp) c [] allQ_nil F M0 w0 n hI hpl _ _ ?_ _ _ _ _ hc h0
  intro x s1 st1 a' w' hc' hx
  split at hx
  rotate_left
  . cases hx
  cases h1:(same s1 s && same ((undAll U st1).map dropS) st') with
  | false=>rw [h1] at hx;cases hx
  | true =>
  rw [Bool.and_eq_true] at h1
  have e1:=same_eq h1.1
  have e2:=same_eq h1.2
  subst e1 e2
  exact hQ a' w' (conc_mask hc' hpl (by rw [List.length_map,undAll_len]) fun j=>by
    rw [get_drop]
    rcases undAll_get U st1 j with ⟨_,e⟩|⟨_,e⟩
    . rw [e];exact .inl rfl
    . rw [e];exact .inr rfl)
end
noncomputable def r61_0:Array Oper:=regAt 0 (bodyOf Try.f25)
noncomputable def r61_1:Array Oper:=regAt 1 (bodyOf Try.f25)
noncomputable def r61_2:Array Oper:=regAt 2 (bodyOf Try.f25)
noncomputable def r61_4:Array Oper:=regAt 4 (bodyOf Try.f25)
noncomputable def r61_5:Array Oper:=regAt 5 (bodyOf Try.f25)
theorem info61_5:r61_5.toList.map opInfo=[(some 25,.load 66 (.tmp 8),none),
  (some 26,.call { callee:=.value (.func 45),args := #[.tmp 25,.const (.int .i64 0)],argTypes := #[66,3] },none),
  (some 27,.range 95 (.tmp 26),none)]:=by kernel_rfl
noncomputable def r61_6:Array Oper:=regAt 6 (bodyOf Try.f25)
theorem info61_6:r61_6.toList.map opInfo=[(some 28,.next (.tmp 27) false,none),
  (some 29,.extract (.tmp 28) 0,none)]:=by kernel_rfl
noncomputable def r61_7:Array Oper:=regAt 7 (bodyOf Try.f25)
theorem info61_7:r61_7.toList.map opInfo=[(some 30,.entry (.tmp 27),none),
  (some 31,.extract (.tmp 30) 0,none),
  (some 32,.extract (.tmp 30) 1,none),
  (some 12,.alloc 45,none),
  (some 11,.assign (.tmp 31),none),
  (none,.store 45 (.tmp 12) (.tmp 32),none)]:=by kernel_rfl
noncomputable def r61_8:Array Oper:=regAt 8 (bodyOf Try.f25)
noncomputable def r61_9:Array Oper:=regAt 9 (bodyOf Try.f25)
noncomputable def r61_10:Array Oper:=regAt 10 (bodyOf Try.f25)
section
variable (sh : RSH) (guard : Int) (tab : TAB) (fv : Value) (r : Nat) (xs : List Int) (key : Int) (sp : Int × Int × Unit) (s : H61.σ) (k : X → H61.σ → St → Out Unit)
def Ue61_0:List Nat:=[0,4,5,8,9,10,11,12,13,14,15,16,17,18,19,20,21,22,23,24,25,26,27,28,29,30,31,32,33,34,35,36,37,38,39,40,41,42,43,44,45,46,47]
theorem e61_0:vhq Try.prog H61 (phi []) [] 1 (.region 0 r61_0 false) [] (fun x s st=>k x s ((undAll Ue61_0 st).map dropS)) s [.d (.prod (.int .i64) (.prod (.int .i64) (.prod (.list (.int .i64)) (.prod (.list (.int .i64)) .unit)))) sh,.d (.int .i64) guard,.d .raw (Value.func (.func 26) #[] #[]),.und,.und,.und,.und,.und,.und,.und,.und,.und,.und,.und,.und,.und,.und,.und,.und,.und,.und,.und,.und,.und,.und,.und,.und,.und,.und,.und,.und,.und,.und,.und,.und,.und,.und,.und,.und,.und,.und,.und,.und,.und,.und,.und,.und,.und] =
  k .normal s [.und,.d (.int .i64) guard,.d .raw (Value.func (.func 26) #[] #[]),.box [.d (.int .i64) sh.1,.d (.int .i64) sh.2.1,.d (.list (.int .i64)) sh.2.2.1,.d (.list (.int .i64)) sh.2.2.2.1],.und,.und,.box [.d (.int .i64) (0:Int),.d (.int .i64) (0:Int)],.d (.int .i64) (0:Int),.und,.und,.und,.und,.und,.und,.und,.und,.und,.und,.und,.und,.und,.und,.und,.und,.und,.und,.und,.und,.und,.und,.und,.und,.und,.und,.und,.und,.und,.und,.und,.und,.und,.und,.und,.und,.und,.und,.und,.und]:=by kernel_rfl
def Ue61_1:List Nat:=[0,1,3,4,5,10,11,12,13,14,15,16,17,18,19,20,21,22,23,24,25,26,27,28,29,30,31,32,33,34,35,36,37,38,39,40,41,42,43,44,45,46,47]
theorem e61_1:vhq Try.prog H61 (phi [sp92]) [] 1 (.region 1 r61_1 false) [] (fun x s st=>k x s ((undAll Ue61_1 st).map dropS)) s [.und,.d (.int .i64) guard,.d .raw (Value.func (.func 26) #[] #[]),.box [.d (.int .i64) sh.1,.d (.int .i64) sh.2.1,.d (.list (.int .i64)) sh.2.2.1,.d (.list (.int .i64)) sh.2.2.2.1],.und,.und,.box [.d (.int .i64) (0:Int),.d (.int .i64) (0:Int)],.d (.int .i64) (0:Int),.und,.und,.und,.und,.und,.und,.und,.und,.und,.und,.und,.und,.und,.und,.und,.und,.und,.und,.und,.und,.und,.und,.und,.und,.und,.und,.und,.und,.und,.und,.und,.und,.und,.und,.und,.und,.und,.und,.und,.und] =
  match f92 (sh,(guard,())) with
  | .ret r_1 =>
    k .normal s [.und,.und,.d .raw (Value.func (.func 26) #[] #[]),.und,.und,.und,.box [.d (.int .i64) (0:Int),.d (.int .i64) (0:Int)],.d (.int .i64) (0:Int),.box [.d (.int .i64) r_1.1.1.1,.d (.int .i64) r_1.1.1.2.1,.d (.list (.int .i64)) r_1.1.1.2.2.1,.d (.list (.int .i64)) r_1.1.1.2.2.2.1,.d (.int .i64) r_1.1.2.1],.d (.int .i64) r_1.2.1,.und,.und,.und,.und,.und,.und,.und,.und,.und,.und,.und,.und,.und,.und,.und,.und,.und,.und,.und,.und,.und,.und,.und,.und,.und,.und,.und,.und,.und,.und,.und,.und,.und,.und,.und,.und,.und,.und]
  | .pan p_2 =>
    .pan p_2
  | .fail=>.fail:=by kernel_rfl
def Ue61_2:List Nat:=[0,1,3,4,5,9,10,11,12,13,14,15,16,17,18,19,20,21,23,24,25,26,27,28,29,30,31,32,33,34,35,36,37,38,39,40,41,42,43,44,45,46,47]
theorem e61_2:vhq Try.prog H61 (phi []) [(4000002,[8,66])] 1 (.region 2 r61_2 false) [] (fun x s st=>k x s ((undAll Ue61_2 st).map dropS)) s [.und,.und,.d .raw (Value.func (.func 26) #[] #[]),.und,.und,.und,.box [.d (.int .i64) (0:Int),.d (.int .i64) (0:Int)],.d (.int .i64) (0:Int),.box [.d (.int .i64) tab.1.1,.d (.int .i64) tab.1.2.1,.d (.list (.int .i64)) tab.1.2.2.1,.d (.list (.int .i64)) tab.1.2.2.2.1,.d (.int .i64) tab.2.1],.d (.int .i64) (0:Int),.und,.und,.und,.und,.und,.und,.und,.und,.und,.und,.und,.und,.und,.und,.und,.und,.und,.und,.und,.und,.und,.und,.und,.und,.und,.und,.und,.und,.und,.und,.und,.und,.und,.und,.und,.und,.und,.und] =
  k .normal s [.und,.und,.d .raw (Value.func (.func 26) #[] #[]),.und,.und,.und,.box [.d (.int .i64) (0:Int),.d (.int .i64) (0:Int)],.d (.int .i64) (0:Int),.ref (.prod (.prod (.int .i64) (.prod (.int .i64) (.prod (.list (.int .i64)) (.prod (.list (.int .i64)) .unit)))) (.prod (.int .i64) .unit)) tab,.und,.und,.und,.und,.und,.und,.und,.und,.und,.und,.und,.und,.und,.d .bool false,.und,.und,.und,.und,.und,.und,.und,.und,.und,.und,.und,.und,.und,.und,.und,.und,.und,.und,.und,.und,.und,.und,.und,.und,.und]:=by kernel_rfl
def Ue61_4:List Nat:=[0,1,3,4,5,9,11,12,13,14,15,16,17,18,19,20,21,22,23,24,25,26,27,28,29,30,31,32,33,34,35,36,37,38,39,40,41,42,43,44,45,46,47]
theorem e61_4:vhq Try.prog H61 (phi []) [] 1 (.region 4 r61_4 false) [] (fun x s st=>k x s ((undAll Ue61_4 st).map dropS)) s [.und,.und,.d .raw (Value.func (.func 26) #[] #[]),.und,.und,.und,.box [.d (.int .i64) (0:Int),.d (.int .i64) (0:Int)],.d (.int .i64) (0:Int),.ref (.prod (.prod (.int .i64) (.prod (.int .i64) (.prod (.list (.int .i64)) (.prod (.list (.int .i64)) .unit)))) (.prod (.int .i64) .unit)) tab,.und,.und,.und,.und,.und,.und,.und,.und,.und,.und,.und,.und,.und,.d .bool false,.und,.und,.und,.und,.und,.und,.und,.und,.und,.und,.und,.und,.und,.und,.und,.und,.und,.und,.und,.und,.und,.und,.und,.und,.und] =
  k .normal s [.und,.und,.d .raw (Value.func (.func 26) #[] #[]),.und,.und,.und,.box [.d (.int .i64) (0:Int),.d (.int .i64) (0:Int)],.d (.int .i64) (0:Int),.ref (.prod (.prod (.int .i64) (.prod (.int .i64) (.prod (.list (.int .i64)) (.prod (.list (.int .i64)) .unit)))) (.prod (.int .i64) .unit)) tab,.und,.own (.int .i64) ([]:List Int) false,.und,.und,.und,.und,.und,.und,.und,.und,.und,.und,.und,.und,.und,.und,.und,.und,.und,.und,.und,.und,.und,.und,.und,.und,.und,.und,.und,.und,.und,.und,.und,.und,.und,.und,.und,.und,.und]:=by kernel_rfl
def Ue61_8:List Nat:=[0,1,3,4,5,9,11,12,13,14,15,16,17,18,19,20,21,22,23,24,25,26,28,29,30,31,32,33,34,35,36,37,38,39,40,41,42,43,44,45,46,47]
theorem e61_8:vhq Try.prog H61 (phi [sp62]) [] 1 (.seq (.region 8 r61_8 false) (.region 9 r61_9 false)) [] (fun x s st=>k x s ((undAll Ue61_8 st).map dropS)) s [.und,.und,.d .raw (Value.func (.func 26) #[] #[]),.und,.und,.und,.box [.d (.int .i64) (0:Int),.d (.int .i64) (0:Int)],.d (.int .i64) (0:Int),.ref (.prod (.prod (.int .i64) (.prod (.int .i64) (.prod (.list (.int .i64)) (.prod (.list (.int .i64)) .unit)))) (.prod (.int .i64) .unit)) tab,.und,.own (.int .i64) xs false,.d (.int .i64) key,.ref (.prod (.int .i64) (.prod (.int .i64) .unit)) sp,.und,.und,.und,.und,.und,.und,.und,.und,.und,.und,.und,.und,.und,.und,.d .raw (ptrV r),.und,.und,.und,.und,.und,.und,.und,.und,.und,.und,.und,.und,.und,.und,.und,.und,.und,.und,.und,.und] =
  match f62 (tab,(key,(sp,()))) with
  | .ret r_1 =>
    bif (fits xs ([r_1.1,r_1.2.1]:List Int)) then
      k .normal s [.und,.und,.d .raw (Value.func (.func 26) #[] #[]),.und,.und,.und,.box [.d (.int .i64) (0:Int),.d (.int .i64) (0:Int)],.d (.int .i64) (0:Int),.ref (.prod (.prod (.int .i64) (.prod (.int .i64) (.prod (.list (.int .i64)) (.prod (.list (.int .i64)) .unit)))) (.prod (.int .i64) .unit)) tab,.und,.own (.int .i64) (xs++([r_1.1,r_1.2.1]:List Int)) false,.und,.und,.und,.und,.und,.und,.und,.und,.und,.und,.und,.und,.und,.und,.und,.und,.d .raw (ptrV r),.und,.und,.und,.und,.und,.und,.und,.und,.und,.und,.und,.und,.und,.und,.und,.und,.und,.und,.und,.und]
    else .fail
  | .pan p_2 =>
    .pan p_2
  | .fail=>.fail:=by kernel_rfl
def Ue61_10:List Nat:=[0,1,2,3,4,5,8,9,10,11,12,13,14,15,16,17,18,19,20,21,22,23,24,25,26,27,28,29,30,31,32,33,34,35,36,37,38,39,40,41,42,43,44,45,46,47]
theorem e61_10:vhq Try.prog H61 (phi [sp94]) [] 1 (.region 10 r61_10 false) [] (fun x s st=>k x s ((undAll Ue61_10 st).map dropS)) s [.und,.und,.d .raw (Value.func (.func 26) #[] #[]),.und,.und,.und,.box [.d (.int .i64) (0:Int),.d (.int .i64) (0:Int)],.d (.int .i64) (0:Int),.ref (.prod (.prod (.int .i64) (.prod (.int .i64) (.prod (.list (.int .i64)) (.prod (.list (.int .i64)) .unit)))) (.prod (.int .i64) .unit)) tab,.und,.own (.int .i64) xs false,.und,.und,.und,.und,.und,.und,.und,.und,.und,.und,.und,.und,.und,.und,.und,.und,.d .raw (ptrV r),.und,.und,.und,.und,.und,.und,.und,.und,.und,.und,.und,.und,.und,.und,.und,.und,.und,.und,.und,.und] =
  match f94 (xs,()) with
  | .ret r_1 =>
    k .normal s [.und,.und,.und,.und,.und,.und,.box [.d (.int .i64) r_1.1,.d (.int .i64) r_1.2.1],.d (.int .i64) (0:Int),.und,.und,.und,.und,.und,.und,.und,.und,.und,.und,.und,.und,.und,.und,.und,.und,.und,.und,.und,.und,.und,.und,.und,.und,.und,.und,.und,.und,.und,.und,.und,.und,.und,.und,.und,.und,.und,.und,.und,.und]
  | .pan p_2 =>
    .pan p_2
  | .fail=>.fail:=by kernel_rfl
end
noncomputable def stX (tab:TAB) (r:Nat) (xs:List Int):St:=[.und,.und,.d .raw (Value.func (.func 26) #[] #[]),.und,.und,.und,.box [.d (.int .i64) (0:Int),.d (.int .i64) (0:Int)],.d (.int .i64) (0:Int),.ref (.prod (.prod (.int .i64) (.prod (.int .i64) (.prod (.list (.int .i64)) (.prod (.list (.int .i64)) .unit)))) (.prod (.int .i64) .unit)) tab,.und,.own (.int .i64) xs false,.und,.und,.und,.und,.und,.und,.und,.und,.und,.und,.und,.und,.und,.und,.und,.und,.d .raw (ptrV r),.und,.und,.und,.und,.und,.und,.und,.und,.und,.und,.und,.und,.und,.und,.und,.und,.und,.und,.und,.und]
noncomputable def stY (tab:TAB) (r:Nat) (xs:List Int) (key:Int) (sp:Int×Int×Unit):St:=[.und,.und,.d .raw (Value.func (.func 26) #[] #[]),.und,.und,.und,.box [.d (.int .i64) (0:Int),.d (.int .i64) (0:Int)],.d (.int .i64) (0:Int),.ref (.prod (.prod (.int .i64) (.prod (.int .i64) (.prod (.list (.int .i64)) (.prod (.list (.int .i64)) .unit)))) (.prod (.int .i64) .unit)) tab,.und,.own (.int .i64) xs false,.d (.int .i64) key,.ref (.prod (.int .i64) (.prod (.int .i64) .unit)) sp,.und,.und,.und,.und,.und,.und,.und,.und,.und,.und,.und,.und,.und,.und,.d .raw (ptrV r),.und,.und,.und,.und,.und,.und,.und,.und,.und,.und,.und,.und,.und,.und,.und,.und,.und,.und,.und,.und]
end Go.V
namespace Go.V
open Go.Proofs
open Go.RowKit (Below)
noncomputable def lb61:Code:=.seq (.region 6 r61_6 false) (.seq (.cond (.tmp 29) .skip (.exit 0)) (.block 1 (.seq (.region 7 r61_7 false) (.seq (.region 8 r61_8 false) (.region 9 r61_9 false)))))
noncomputable def at61 (l:List Nat):Code:=match codeAt l (bodyOf Try.f25) with|some c=>c|none=>.skip
theorem body61_at:bodyOf Try.f25 = .seq (.region 0 r61_0 false) (.seq (.region 1 r61_1 false) (.seq (.seq (.region 2 r61_2 false) (.cond (.tmp 22) (at61 [1,1,0,1,0]) .skip)) (.seq (.region 4 r61_4 false) (.seq (.seq (.region 5 r61_5 false) (.block 0 (.loop lb61))) (.seq (.region 10 r61_10 false) .ret))))):=by kernel_rfl
theorem some61:Try.f25.body=some (bodyOf Try.f25):=by kernel_rfl
theorem ex_call93 {a:Act} {w:World} {o:Oper} (ho:o.op = .call { callee:=.value (.func 45),args := #[.tmp 25,.const (.int .i64 0)],argTypes := #[66,3] }) {u:Value} (h0:tm a 25=u):(execOp a.eval o).run Try.prog w = .ok (.enter 45 #[u,.int .i64 0]) w:=by
  have e0:a.eval (.tmp 25)=u:=h0
  have e1:a.eval (.const (.int .i64 0)) = .int .i64 0:=rfl
  have e2:a.eval (.func 45) = .func (.func 45) #[] #[]:=rfl
  have e3:=fun args=>enters_run (P:=Try.prog) (g:=45) (by kernel_rfl) args w
  simp [execOp,ho,resolve,e0,e1,e2,Deferred.ofValue,invoke,e3]
theorem ex_rangeP {a:Act} {w:World} {o:Oper} {p:Nat} (ho:o.op = .range 95 (.tmp p)) {m:Value} (h:tm a p=m) {v:Value} {w':World} (hr:(Instr.range 95 m).run Try.prog w = .ok v w'):(execOp a.eval o).run Try.prog w = .ok (.value v) w':=by
  have e1:a.eval (.tmp p)=m:=h
  simp [execOp,ho,e1,hr]
theorem ref_ptr {M:Mut} {w:World} {st:St} {a:Act} {v:Value} {t:Ty} {x:t.den} (h:SlotOK M w st a v (.ref t x)):RepV M w (.ptr t) v x:=by
  obtain ⟨b,o,cs,e1,e2,e3,e4⟩:=h
  subst e1
  exact ⟨[_],rfl,b,o,cs,rfl,e2,e3,e4⟩
noncomputable def stW (tab:TAB):St:=[.und,.und,.d .raw (Value.func (.func 26) #[] #[]),.und,.und,.und,.box [.d (.int .i64) (0:Int),.d (.int .i64) (0:Int)],.d (.int .i64) (0:Int),.ref TABTY tab,.und,.own (.int .i64) ([]:List Int) false]++List.replicate 37 .und
theorem stX_und (tab:TAB) (r:Nat) (xs:List Int) {j:Nat} (h:11<=j) (h2:j≠27):get (stX tab r xs) j = .und:=by
  by_cases hj:j<48
  . have h1:((List.range 48).all fun k=>decide (k<11) || k==27 || (match get (stX tab r xs) k with | .und=>true|_=>false))=true:=by rfl
    have h3:=List.all_eq_true.1 h1 j (List.mem_range.2 hj)
    simp only [Bool.or_eq_true,beq_iff_eq,decide_eq_true_eq] at h3
    rcases h3 with (h3|h3)|h3
    . omega
    . exact absurd h3 h2
    . revert h3
      cases e:get (stX tab r xs) j with
      | und=>exact fun _=>rfl
      | _=>exact fun h=>by cases h
  . unfold get
    rw [List.getD_eq_getElem?_getD,List.getElem?_eq_none (by show 48<=j;omega)]
    rfl
theorem stW_und (tab:TAB) {j:Nat} (h:11<=j):get (stW tab) j = .und:=by
  have e1:stW tab=[.und,.und,.d .raw (Value.func (.func 26) #[] #[]),.und,.und,.und,.box [.d (.int .i64) (0:Int),.d (.int .i64) (0:Int)],.d (.int .i64) (0:Int),.ref TABTY tab,.und,.own (.int .i64) ([]:List Int) false]++List.replicate 37 .und:=rfl
  rw [e1]
  unfold get
  rw [List.getD_eq_getElem?_getD,List.getElem?_append_right (by show 11<=j;omega),List.getElem?_replicate]
  split<;>rfl
section
variable {n : Nat} {Q : Exit → Act → World → Prop} {F : Nat → Prop} {M0 : Base} {w0 : World} {a : Act} {w : World} {tab : TAB}
theorem raw61 {s:H61.σ} {st:St} (hc:ConcH H61 F M0 w0 s st a w) {j:Nat} {v:Value} (h:get st j = .d .raw v):tm a j=v:=by
  obtain ⟨hf,M,hG⟩:=hc
  have s1:=hG.2.1.slot j
  rw [h] at s1
  exact repV_raw (show RepV M w .raw (tm a j) v from s1)
theorem size61 {s:H61.σ} {st:St} (hc:ConcH H61 F M0 w0 s st a w) {N:Nat} (hl:st.length=N):a.tmps.size=N:=by
  obtain ⟨hf,M,hG⟩:=hc
  exact hG.2.1.size.trans hl
theorem q5_wp (hI:∀ w,Fr F w0 w->Inv.I Try.prog w) {g:GF} {kk:Nat} (hsum:sumsR tab fuel 0 g93 1 = .ret (g,kk)) (hc:ConcH H61 F M0 w0 (none:Option Q61) (stW tab) a w) (hQ:∀ m r cnt a' w',ConcH H61 F M0 w0 (some ⟨m,r,kk,cnt,g,(fun k=>(g k).isSome)⟩:Option Q61) (stX tab r []) a' w'->cnt<=kk->Q .normal a' w') :
    (Code.region 5 r61_5 false).wpIn (fen none) n Try.prog Q a w:=by
  have hsz:=size61 hc (N:=48) rfl
  obtain ⟨hfr,M,hG⟩:=hc
  have s8:=hG.2.1.slot 8
  have e8:get (stW tab) 8 = .ref TABTY tab:=rfl
  rw [e8] at s8
  have hp8:=ref_ptr s8
  refine wpIn_region ?_
  rw [show r61_5.size=3 by kernel_rfl]
  show wpOpsIn (fen none) n Try.prog r61_5 _ [0,1,2] a w
  obtain ⟨o0,i0,d0,p0,q0⟩:=infoAt info61_5 (i:=0) rfl
  simp only at d0 p0 q0
  rw [wpOpsIn_cons]
  obtain ⟨u,hu,hr0⟩:=ex_loadP (a:=a) (w:=w) (t:=TABTY) (by kernel_rfl) p0 rfl hp8
  refine opr_value (ro:=none) i0 (wanted_none q0) (fun c h=>by rw [p0] at h;cases h) hr0 ?_
  rw [d0]
  obtain ⟨a1,ha1⟩:∃ zz:Act,zz=Act.put a (some 25) (u):=⟨_,rfl⟩
  rw [<- ha1]
  have z1:a1.tmps.size=48:=by rw [ha1,size_put];exact hsz
  have t1_25:tm a1 25=u:=by rw [ha1];exact tm_put_same (by omega)
  obtain ⟨o1,i1,d1,p1,q1⟩:=infoAt info61_5 (i:=1) rfl
  simp only at d1 p1 q1
  rw [wpOpsIn_cons]
  refine opr_enter (ro:=none) i1 (wanted_none q1) (fun c h=>by rw [p1] at h;cases h) (ex_call93 p1 t1_25) ((sums_calls (hI w hfr) hu hG.2.1.lt hsum).mono ?_)
  rintro e w1 ⟨m,rfl,hbel,hge,hmg⟩
  refine ⟨_,rfl,?_⟩
  rw [d1]
  obtain ⟨a2,ha2⟩:∃ zz:Act,zz=Act.put a1 (some 26) (.map (some m)):=⟨_,rfl⟩
  rw [<- ha2]
  have z2:a2.tmps.size=48:=by rw [ha2,size_put];exact z1
  have t2_26:tm a2 26 = .map (some m):=by rw [ha2];exact tm_put_same (by omega)
  obtain ⟨o2,i2,d2,p2,q2⟩:=infoAt info61_5 (i:=2) rfl
  simp only at d2 p2 q2
  rw [wpOpsIn_cons]
  obtain ⟨w2,cnt,hrun,hrg,hgr,hs2,hcn⟩:=hmg.range2
  refine opr_value (ro:=none) i2 (wanted_none q2) (fun c h=>by rw [p2] at h;cases h) (ex_rangeP p2 t2_26 hrun) ?_
  rw [d2]
  obtain ⟨a3,ha3⟩:∃ zz:Act,zz=Act.put a2 (some 27) (.pointer (some ⟨w1.heap.size,0,none⟩)):=⟨_,rfl⟩
  rw [<- ha3]
  have z3:a3.tmps.size=48:=by rw [ha3,size_put];exact z2
  obtain ⟨M',hM'⟩:∃ M':Mut,M'=fun b o=>M b o\/b=m\/b=w1.heap.size:=⟨_,rfl⟩
  have hsz1:=hbel.size
  have hml:m<w1.heap.size:=by obtain ⟨es,c,e⟩:=hmg.block;exact (Array.getElem?_eq_some_iff.1 e).1
  have hold:∀ k,k<w.heap.size->w2.heap[k]? = w.heap[k]? := fun k hk=>(hgr.block k (by omega) (by simp)).trans (hbel.block k hk)
  obtain ⟨q,hq⟩:∃ q:Q61,q=⟨m,w1.heap.size,kk,cnt,g,(fun k=>(g k).isSome)⟩:=⟨_,rfl⟩
  have hI1:H61.I (some q:Option Q61) M' w2:=fun q' hq'=>by
    cases hq'
    subst hq
    exact hrg
  have hgo:Fr (fun k=>k<w.heap.size/\¬ H61.hb (none:Option Q61) w k) w w2:=⟨hgr.os.trans hbel.os,hgr.tape.trans hbel.tape,hgr.output.trans hbel.output,by omega,fun k hk=>hold k hk.1⟩
  have hhb:∀ b,H61.hb (some q:Option Q61) w2 b->b=m\/b=w1.heap.size:=fun b hb=>by
    obtain ⟨q',hq',h⟩:=hb
    cases hq'
    subst hq
    exact h
  obtain ⟨f1,f2⟩:=hG.grow (s':=(some q:Option Q61)) (M':=M') (w':=w2) hgo hI1 (fun b o h=>by rw [hM'];exact .inr (.inl h)) (fun b o h=>by
    rw [hM'] at h
    rcases h with h|h|h
    . exact .inl h
    . exact .inr ⟨by omega,by omega⟩
    . exact .inr ⟨by omega,by omega⟩) (fun b hb=>.inr (by rcases hhb b hb with h|h<;>omega)) fun b hb o=>by
    rw [hM']
    rcases hhb b hb with h|h
    . exact .inr (.inl h)
    . exact .inr (.inr h)
  have f3:=good_free f2 (d:=25) (stW_und tab (by omega)) u
  have f4:=good_free f3 (d:=26) (stW_und tab (by omega)) (.map (some m))
  have f5:=good_put f4 (d:=27) (by rw [stW_und tab (by omega)];rfl) (x:=.d .raw (ptrV w1.heap.size)) rfl (v:=ptrV w1.heap.size) ⟨[_],rfl,rfl,rfl,rfl⟩
  subst hq
  refine hQ m w1.heap.size cnt _ w2 ⟨hfr.trans f1,M',?_⟩ hcn
  rw [ha3,ha2,ha1]
  exact f5
structure Gath (g:GF) (o1 o2:Int->Int) (lf:Int->Bool) (xs:List Int):Prop where
  of:∀ x∈xs,∃ k p,g k=some p/\(x=o1 k\/x=o2 k)
  all:∀ k p,g k=some p->lf k=false->o1 k∈xs/\o2 k∈xs
theorem loop61 (hI:∀ w,Fr F w0 w->Inv.I Try.prog w) (hpl:∀ j v,M0.pin j=some v->False) {mm r kk:Nat} {g:GF} {o1 o2:Int->Int} (hbd:Bd g) (hkk:kk<400000) (hof:∀ k p,g k=some p->f62 (tab,(k,((p.1,p.2,()),()))) = .ret (o1 k,o2 k,()))
    (hQ:∀ q xs a' w',Gath g o1 o2 (fun _=>false) xs->List.length xs<=2 * kk->ConcH H61 F M0 w0 (some q:Option Q61) (stX tab r xs) a' w'->Q (.exit 0) a' w') :
    ∀ (m:Nat) (xs:List Int) (lf:Int->Bool) (cnt:Nat) (a:Act) (w:World),cnt<m->xs.length+2 * cnt<=2 * kk->Gath g o1 o2 lf xs->ConcH H61 F M0 w0 (some ⟨mm,r,kk,cnt,g,lf⟩:Option Q61) (stX tab r xs) a w->Code.roundsIn (fen none) n Try.prog lb61 Q m a w:=by
  intro m
  induction m with
  | zero=>intro xs lf cnt a w h;omega
  | succ m ih =>
    intro xs lf cnt a w hm hxl hga hc
    have t27:tm a 27=ptrV r:=raw61 hc rfl
    have hsz:=size61 hc (N:=48) rfl
    obtain ⟨hfr,M,hG⟩:=hc
    have hrg:RangeG g lf cnt kk mm r w:=hG.1 _ rfl
    rw [roundsIn_succ]
    show Code.wpIn (fen none) n Try.prog (.seq (.region 6 r61_6 false) (.seq (.cond (.tmp 29) .skip (.exit 0)) (.block 1 (.seq (.region 7 r61_7 false) (.seq (.region 8 r61_8 false) (.region 9 r61_9 false)))))) _ a w
    refine wpIn_seq ?_
    refine wpIn_region ?_
    rw [show r61_6.size=2 by kernel_rfl]
    show wpOpsIn (fen none) n Try.prog r61_6 _ [0,1] a w
    obtain ⟨ox0,ix0,dx0,px0,qx0⟩:=infoAt info61_6 (i:=0) rfl
    simp only at dx0 px0 qx0
    rw [wpOpsIn_cons]
    rcases hrg.next ox0.type with ⟨e1,e2,hrun⟩|⟨k,pa,pb,w1,cnt1,hk,hlk,hgk,hrun,hrg1,hc1,hgr,hs1,hent⟩
    . -- the end
      refine opr_value (ro:=none) ix0 (wanted_none qx0) (fun c h=>by rw [px0] at h;cases h) (ex_next px0 t27 hrun) ?_
      rw [dx0]
      obtain ⟨ae1,hae1⟩:∃ zz:Act,zz=Act.put a (some 28) (.tuple #[.bool false]):=⟨_,rfl⟩
      rw [<- hae1]
      have ze1:ae1.tmps.size=48:=by rw [hae1,size_put];exact hsz
      have te1_28:tm ae1 28 = .tuple #[.bool false]:=by rw [hae1];exact tm_put_same (by omega)
      obtain ⟨oe1,ie1,de1,pe1,qe1⟩:=infoAt info61_6 (i:=1) rfl
      simp only at de1 pe1 qe1
      rw [wpOpsIn_cons]
      refine opr_value ie1 (wanted_none qe1) (fun c h=>by rw [pe1] at h;cases h) (ex_extract (v:=.bool false) pe1 te1_28 rfl) ?_
      rw [de1]
      obtain ⟨ae2,hae2⟩:∃ zz:Act,zz=Act.put ae1 (some 29) (.bool false):=⟨_,rfl⟩
      rw [<- hae2]
      have ze2:ae2.tmps.size=48:=by rw [hae2,size_put];exact ze1
      have te2_29:tm ae2 29 = .bool false:=by rw [hae2];exact tm_put_same (by omega)
      refine wpIn_seq (wpIn_cond (t:=false) te2_29 ?_)
      simp only [Bool.false_eq_true,if_false]
      have f3:=good_free (good_free hG (d:=28) (stX_und tab r xs (by omega) (by omega)) (.tuple #[.bool false])) (d:=29) (stX_und tab r xs (by omega) (by omega)) (.bool false)
      refine wpIn_exit (hQ ⟨mm,r,kk,cnt,g,lf⟩ xs _ w ⟨hga.of,fun k p hkp _=>hga.all k p hkp ?_⟩ (by omega) ⟨hfr,M,?_⟩)
      . refine e2 k ?_
        have h1:=hbd _ _ hkp
        simp only [rng,Bool.and_eq_true,decide_eq_true_eq]
        omega
      . rw [hae2,hae1]
        exact f3
    . -- an entry
      refine opr_value (ro:=none) ix0 (wanted_none qx0) (fun c h=>by rw [px0] at h;cases h) (ex_next px0 t27 hrun) ?_
      rw [dx0]
      obtain ⟨ag1,hag1⟩:∃ zz:Act,zz=Act.put a (some 28) (.tuple #[.bool true,.int .i64 k,pairV pa pb]):=⟨_,rfl⟩
      rw [<- hag1]
      have zg1:ag1.tmps.size=48:=by rw [hag1,size_put];exact hsz
      have tg1_28:tm ag1 28 = .tuple #[.bool true,.int .i64 k,pairV pa pb]:=by rw [hag1];exact tm_put_same (by omega)
      obtain ⟨og1,ig1,dg1,pg1,qg1⟩:=infoAt info61_6 (i:=1) rfl
      simp only at dg1 pg1 qg1
      rw [wpOpsIn_cons]
      refine opr_value ig1 (wanted_none qg1) (fun c h=>by rw [pg1] at h;cases h) (ex_extract (v:=.bool true) pg1 tg1_28 rfl) ?_
      rw [dg1]
      obtain ⟨ag2,hag2⟩:∃ zz:Act,zz=Act.put ag1 (some 29) (.bool true):=⟨_,rfl⟩
      rw [<- hag2]
      have zg2:ag2.tmps.size=48:=by rw [hag2,size_put];exact zg1
      have tg2_29:tm ag2 29 = .bool true:=by rw [hag2];exact tm_put_same (by omega)
      refine wpIn_seq (wpIn_cond (t:=true) tg2_29 ?_)
      have tg1_27:tm ag1 27 = .pointer (some ⟨r,0,none⟩):=by rw [hag1,tm_put_other (by omega)];exact t27
      have tg2_27:tm ag2 27 = .pointer (some ⟨r,0,none⟩):=by rw [hag2,tm_put_other (by omega)];exact tg1_27
      simp only [if_true]
      refine wpIn_skip (wpIn_block (wpIn_seq ?_))
      refine wpIn_region ?_
      rw [show r61_7.size=6 by kernel_rfl]
      show wpOpsIn (fen none) n Try.prog r61_7 _ [0,1,2,3,4,5] ag2 w1
      obtain ⟨oh0,ih0,dh0,ph0,qh0⟩:=infoAt info61_7 (i:=0) rfl
      simp only at dh0 ph0 qh0
      rw [wpOpsIn_cons]
      refine opr_value ih0 (wanted_none qh0) (fun c h=>by rw [ph0] at h;cases h) (ex_entry ph0 tg2_27 hent) ?_
      rw [dh0]
      obtain ⟨ah1,hah1⟩:∃ zz:Act,zz=Act.put ag2 (some 30) (.tuple #[.int .i64 k,pairV pa pb]):=⟨_,rfl⟩
      rw [<- hah1]
      have zh1:ah1.tmps.size=48:=by rw [hah1,size_put];exact zg2
      have th1_30:tm ah1 30 = .tuple #[.int .i64 k,pairV pa pb]:=by rw [hah1];exact tm_put_same (by omega)
      obtain ⟨oh1,ih1,dh1,ph1,qh1⟩:=infoAt info61_7 (i:=1) rfl
      simp only at dh1 ph1 qh1
      rw [wpOpsIn_cons]
      refine opr_value ih1 (wanted_none qh1) (fun c h=>by rw [ph1] at h;cases h) (ex_extract (v:=.int .i64 k) ph1 th1_30 rfl) ?_
      rw [dh1]
      obtain ⟨ah2,hah2⟩:∃ zz:Act,zz=Act.put ah1 (some 31) (.int .i64 k):=⟨_,rfl⟩
      rw [<- hah2]
      have zh2:ah2.tmps.size=48:=by rw [hah2,size_put];exact zh1
      have th2_30:tm ah2 30 = .tuple #[.int .i64 k,pairV pa pb]:=by rw [hah2,tm_put_other (by omega)];exact th1_30
      obtain ⟨oh2,ih2,dh2,ph2,qh2⟩:=infoAt info61_7 (i:=2) rfl
      simp only at dh2 ph2 qh2
      rw [wpOpsIn_cons]
      refine opr_value ih2 (wanted_none qh2) (fun c h=>by rw [ph2] at h;cases h) (ex_extract (v:=pairV pa pb) ph2 th2_30 rfl) ?_
      rw [dh2]
      obtain ⟨ah3,hah3⟩:∃ zz:Act,zz=Act.put ah2 (some 32) (pairV pa pb):=⟨_,rfl⟩
      rw [<- hah3]
      have zh3:ah3.tmps.size=48:=by rw [hah3,size_put];exact zh2
      obtain ⟨oh3,ih3,dh3,ph3,qh3⟩:=infoAt info61_7 (i:=3) rfl
      simp only at dh3 ph3 qh3
      rw [wpOpsIn_cons]
      refine opr_value ih3 (wanted_none qh3) (fun c h=>by rw [ph3] at h;cases h) (ex_alloc45 ph3) ?_
      rw [dh3]
      obtain ⟨ah4,hah4⟩:∃ zz:Act,zz=Act.put ah3 (some 12) (.pointer (some ⟨w1.heap.size,0,none⟩)):=⟨_,rfl⟩
      rw [<- hah4]
      have zh4:ah4.tmps.size=48:=by rw [hah4,size_put];exact zh3
      obtain ⟨w2,hw2⟩:∃ b:World,b=w1.alloc (.cells #[.int .i64 0,.int .i64 0] 45):=⟨_,rfl⟩
      rw [<- hw2]
      have c2:w2.heap[w1.heap.size]? = some (.cells #[.int .i64 0,.int .i64 0] 45 (0,0)):=by rw [hw2];exact heap_alloc_new w1 _
      have th2_31:tm ah2 31 = .int .i64 k:=by rw [hah2];exact tm_put_same (by omega)
      have th3_31:tm ah3 31 = .int .i64 k:=by rw [hah3,tm_put_other (by omega)];exact th2_31
      have th4_31:tm ah4 31 = .int .i64 k:=by rw [hah4,tm_put_other (by omega)];exact th3_31
      obtain ⟨oh4,ih4,dh4,ph4,qh4⟩:=infoAt info61_7 (i:=4) rfl
      simp only at dh4 ph4 qh4
      rw [wpOpsIn_cons]
      refine opr_value ih4 (wanted_none qh4) (fun c h=>by rw [ph4] at h;cases h) (ex_assign ph4) ?_
      rw [dh4,th4_31]
      obtain ⟨ah5,hah5⟩:∃ zz:Act,zz=Act.put ah4 (some 11) (.int .i64 k):=⟨_,rfl⟩
      rw [<- hah5]
      have zh5:ah5.tmps.size=48:=by rw [hah5,size_put];exact zh4
      have th4_12:tm ah4 12 = .pointer (some ⟨w1.heap.size,0,none⟩):=by rw [hah4];exact tm_put_same (by omega)
      have th5_12:tm ah5 12 = .pointer (some ⟨w1.heap.size,0,none⟩):=by rw [hah5,tm_put_other (by omega)];exact th4_12
      have th3_32:tm ah3 32=pairV pa pb:=by rw [hah3];exact tm_put_same (by omega)
      have th4_32:tm ah4 32=pairV pa pb:=by rw [hah4,tm_put_other (by omega)];exact th3_32
      have th5_32:tm ah5 32=pairV pa pb:=by rw [hah5,tm_put_other (by omega)];exact th4_32
      obtain ⟨oh5,ih5,dh5,ph5,qh5⟩:=infoAt info61_7 (i:=5) rfl
      simp only at dh5 ph5 qh5
      rw [wpOpsIn_cons]
      refine opr_skipped ih5 (wanted_none qh5) (fun c h=>by rw [ph5] at h;cases h) (ex_store45 (x:=pa) (y:=pb) ph5 th5_12 th5_32 c2) ?_
      rw [dh5,put_none]
      obtain ⟨w3,hw3⟩:∃ b:World,b=w2.setRow w1.heap.size #[.int .i64 pa,.int .i64 pb]:=⟨_,rfl⟩
      rw [<- hw3]
      have c3:w3.heap[w1.heap.size]? = some (.cells #[.int .i64 pa,.int .i64 pb] 45 (0,0)):=by rw [hw3];exact setRow_same c2
      have l2:w2.heap.size=w1.heap.size+1:=by rw [hw2];simp
      have l3:w3.heap.size=w1.heap.size+1:=by rw [hw3,setRow_size];exact l2
      have hold1:∀ k,k<w1.heap.size->w3.heap[k]? = w1.heap[k]? := fun k hk=>by rw [hw3,setRow_other (by omega),hw2,heap_alloc_old w1 _ hk]
      have hold:∀ k,k<w.heap.size->k≠r->w3.heap[k]? = w.heap[k]? := fun k hk hr=>(hold1 k (by omega)).trans (hgr.block k hk fun e=>hr (by cases e;rfl))
      obtain ⟨lf1,hlf1⟩:∃ lf1:Int->Bool,lf1=fun x=>lf x && !(x==k):=⟨_,rfl⟩
      rw [<- hlf1] at hrg1
      have hsub:∀ b,H61.hb (some ⟨mm,r,kk,cnt1,g,lf1⟩:Option Q61) w3 b->H61.hb (some ⟨mm,r,kk,cnt,g,lf⟩:Option Q61) w b:=fun b hb=>by
        obtain ⟨q',hq',h⟩:=hb
        cases hq'
        exact ⟨_,rfl,h⟩
      have hI1:H61.I (some ⟨mm,r,kk,cnt1,g,lf1⟩:Option Q61) M w3:=fun q' hq'=>by
        cases hq'
        exact hrg1.keep (hold1 mm (by obtain ⟨es,c,e⟩:=hrg1.map.block;exact (Array.getElem?_eq_some_iff.1 e).1)) (hold1 r (by obtain ⟨_,_,_,_,e⟩:=hrg1.iter;exact (Array.getElem?_eq_some_iff.1 e).1))
      have hgo:Fr (fun k=>k<w.heap.size/\¬ H61.hb (some ⟨mm,r,kk,cnt,g,lf⟩:Option Q61) w k) w w3:=by
        refine ⟨?_,?_,?_,by have:=hgr.size;omega,fun k hk=>hold k hk.1 fun e=>hk.2 ⟨_,rfl,.inr e⟩⟩
        . rw [hw3,hw2];show w1.os=w.os;exact hgr.os
        . rw [hw3,hw2];show w1.tape=w.tape;exact hgr.tape
        . rw [hw3,hw2];show w1.output=w.output;exact hgr.output
      obtain ⟨f1,f2⟩:=hG.grow (s':=(some ⟨mm,r,kk,cnt1,g,lf1⟩:Option Q61)) (M':=M) (w':=w3) hgo hI1 (fun b o h=>.inr h) (fun b o h=>.inl h) (fun b hb=>.inl (hsub b hb)) fun b hb o=>(hG.2.2 b (hsub b hb)).2.1 o
      have hnM:∀ o,¬ M w1.heap.size o:=fun o h=>by have:=hG.2.1.lt _ o h;omega
      have U:∀ {j:Nat},11<=j->j≠27->get (stX tab r xs) j = .und:=fun h1 h2=>stX_und tab r xs h1 h2
      have f3:=good_free (good_free (good_free (good_free (good_free f2 (d:=28) (U (by omega) (by omega)) (.tuple #[.bool true,.int .i64 k,pairV pa pb])) (d:=29) (U (by omega) (by omega)) (.bool true)) (d:=30) (U (by omega) (by omega)) (.tuple #[.int .i64 k,pairV pa pb])) (d:=31) (U (by omega) (by omega)) (.int .i64 k)) (d:=32) (U (by omega) (by omega)) (pairV pa pb)
      have f4:=good_put f3 (d:=12) (by rw [U (by omega) (by omega)];rfl) (x:=.ref (.prod (.int .i64) (.prod (.int .i64) .unit)) (pa,pb,())) rfl (v:=.pointer (some ⟨w1.heap.size,0,none⟩)) ⟨w1.heap.size,0,[.int .i64 pa,.int .i64 pb],rfl,rfl,fun j hj=>⟨by
        rw [cell_of_row w3 _ _ _ _ _ c3,Nat.zero_add]
        match j,hj with
        | 0,_=>rfl
        | 1,_=>rfl,hnM _⟩,[_],[_],rfl,rfl,[_],[],rfl,rfl,rfl⟩
      have f5:=good_put f4 (d:=11) (by rfl) (x:=.d (.int .i64) k) rfl (v:=.int .i64 k) ⟨[_],rfl,rfl⟩
      have hcp:ConcH H61 F M0 w0 (some ⟨mm,r,kk,cnt1,g,lf1⟩:Option Q61) (stY tab r xs k (pa,pb,())) ah5 w3:=by
        refine ⟨hfr.trans f1,M,?_⟩
        rw [hah5,hah4,hah3,hah2,hah1,hag2,hag1]
        exact f5
      have h62:=hof k (pa,pb) hgk
      have hfit:fits xs ([o1 k,o2 k]:List Int)=true:=by
        unfold fits
        have h9:xs.length+2 * cnt<=2 * kk:=hxl
        simp only [decide_eq_true_eq,List.length_cons,List.length_nil]
        omega
      refine vstepH (l:=[sp62]) (all_cons c62 all_nil) [] Ue61_8 (st':=stX tab r (xs++[o1 k,o2 k])) (fun kf=>(e61_8 tab r xs k (pa,pb,()) _ kf).trans ?_) hI hpl hcp fun a4 w4 hc4=>?_
      . rw [h62]
        show (bif fits xs ([o1 k,o2 k]:List Int) then _ else _)=_
        rw [hfit]
        rfl
      refine ih (xs++[o1 k,o2 k]) lf1 cnt1 a4 w4 (by omega) (by simp only [List.length_append,List.length_cons,List.length_nil];omega) ⟨fun x hx=>?_,fun j p hj hlj=>?_⟩ hc4
      . rcases List.mem_append.1 hx with hx|hx
        . exact hga.of x hx
        . simp only [List.mem_cons,List.not_mem_nil,or_false] at hx
          exact ⟨k,(pa,pb),hgk,hx⟩
      . by_cases ej:j=k
        . subst ej
          exact ⟨List.mem_append_right _ (by simp),List.mem_append_right _ (by simp)⟩
        . have h10:lf j=false:=by
            rw [hlf1] at hlj
            have:(j==k)=false:=by simp [ej]
            simpa [this] using hlj
          have:=hga.all j p hj h10
          exact ⟨List.mem_append_left _ this.1,List.mem_append_left _ this.2⟩
end
end Go.V
namespace Go.V
open Go.Proofs
open Go.RowKit (Below)
noncomputable def sA61 (sh:RSH) (guard:Int):St:=[.und,.d (.int .i64) guard,.d .raw (Value.func (.func 26) #[] #[]),.box [.d (.int .i64) sh.1,.d (.int .i64) sh.2.1,.d (.list (.int .i64)) sh.2.2.1,.d (.list (.int .i64)) sh.2.2.2.1],.und,.und,.box [.d (.int .i64) (0:Int),.d (.int .i64) (0:Int)],.d (.int .i64) (0:Int),.und,.und,.und,.und,.und,.und,.und,.und,.und,.und,.und,.und,.und,.und,.und,.und,.und,.und,.und,.und,.und,.und,.und,.und,.und,.und,.und,.und,.und,.und,.und,.und,.und,.und,.und,.und,.und,.und,.und,.und]
noncomputable def sB61 (tab:TAB):St:=[.und,.und,.d .raw (Value.func (.func 26) #[] #[]),.und,.und,.und,.box [.d (.int .i64) (0:Int),.d (.int .i64) (0:Int)],.d (.int .i64) (0:Int),.box [.d (.int .i64) tab.1.1,.d (.int .i64) tab.1.2.1,.d (.list (.int .i64)) tab.1.2.2.1,.d (.list (.int .i64)) tab.1.2.2.2.1,.d (.int .i64) tab.2.1],.d (.int .i64) (0:Int),.und,.und,.und,.und,.und,.und,.und,.und,.und,.und,.und,.und,.und,.und,.und,.und,.und,.und,.und,.und,.und,.und,.und,.und,.und,.und,.und,.und,.und,.und,.und,.und,.und,.und,.und,.und,.und,.und]
noncomputable def sC61 (tab:TAB):St:=[.und,.und,.d .raw (Value.func (.func 26) #[] #[]),.und,.und,.und,.box [.d (.int .i64) (0:Int),.d (.int .i64) (0:Int)],.d (.int .i64) (0:Int),.ref (.prod (.prod (.int .i64) (.prod (.int .i64) (.prod (.list (.int .i64)) (.prod (.list (.int .i64)) .unit)))) (.prod (.int .i64) .unit)) tab,.und,.und,.und,.und,.und,.und,.und,.und,.und,.und,.und,.und,.und,.d .bool false,.und,.und,.und,.und,.und,.und,.und,.und,.und,.und,.und,.und,.und,.und,.und,.und,.und,.und,.und,.und,.und,.und,.und,.und,.und]
noncomputable def sE61 (lo hi:Int):St:=[.und,.und,.und,.und,.und,.und,.box [.d (.int .i64) lo,.d (.int .i64) hi],.d (.int .i64) (0:Int),.und,.und,.und,.und,.und,.und,.und,.und,.und,.und,.und,.und,.und,.und,.und,.und,.und,.und,.und,.und,.und,.und,.und,.und,.und,.und,.und,.und,.und,.und,.und,.und,.und,.und,.und,.und,.und,.und,.und,.und]
abbrev ARG61:Ty:=.prod RSHTY (.prod (.int .i64) (.prod .raw .unit))
abbrev RES61:Ty:=.prod (.prod (.int .i64) (.prod (.int .i64) .unit)) (.prod (.int .i64) .unit)
structure S61 (x:RSH×Int×Value×Unit) (r:(Int×Int×Unit)×Int×Unit):Prop where
  fn:x.2.2.1=Value.func (.func 26) #[] #[]
  some:∃ (tab:TAB) (o1 o2:Int->Int) (g:GF) (kk:Nat),f92 (x.1,(x.2.1,())) = .ret (tab,0,())/\sumsR tab fuel 0 g93 1 = .ret (g,kk)/\Bd g/\kk<400000/\(∀ k p,g k=some p->f62 (tab,(k,((p.1,p.2,()),()))) = .ret (o1 k,o2 k,()))/\∀ xs,Gath g o1 o2 (fun _=>false) xs->List.length xs<=2 * kk->f94 (xs,()) = .ret (r.1.1,r.1.2.1,())
  zero:r.2.1=0
def R61:(Int×Int×Unit)×Int×Unit:=((-1,1,()),0,())
open Classical in
noncomputable def f61 (x:RSH×Int×Value×Unit):Out ((Int×Int×Unit)×Int×Unit):=if S61 x R61 then .ret R61 else .fail
noncomputable def sp61:Spec:=⟨25,.call,ARG61,RES61,true,false,f61⟩
section
variable {n : Nat} {Q : Exit → Act → World → Prop} {F : Nat → Prop} {M0 : Base} {w0 : World} {a : Act} {w : World} {tab : TAB} {sh : RSH} {guard : Int} {s : H61.σ}
theorem bool61 {st:St} (hc:ConcH H61 F M0 w0 s st a w) {j:Nat} {b:Bool} (h:get st j = .d .bool b):tm a j = .bool b:=by
  obtain ⟨hf,M,hG⟩:=hc
  have s1:=hG.2.1.slot j
  rw [h] at s1
  obtain ⟨cs,e,h1⟩:=s1
  have h1:cs=[.bool b]:=h1
  subst h1
  exact e
theorem front61 (hI:∀ w,Fr F w0 w->Inv.I Try.prog w) (hpl:∀ j v,M0.pin j=some v->False) (h92:f92 (sh,(guard,())) = .ret (tab,0,())) (hc:ConcH H61 F M0 w0 (none:Option Q61) (st0 48 ARG61 (sh,guard,Value.func (.func 26) #[] #[],())) a w)
    (hQ:∀ a' w',ConcH H61 F M0 w0 (none:Option Q61) (stW tab) a' w'->(Code.seq (.seq (.region 5 r61_5 false) (.block 0 (.loop lb61))) (.seq (.region 10 r61_10 false) .ret)).wpIn (fen none) n Try.prog Q a' w') :
    (bodyOf Try.f25).wpIn (fen none) n Try.prog Q a w:=by
  rw [body61_at]
  refine wpIn_seq (vstepH (l:=[]) all_nil [] Ue61_0 (st':=sA61 sh guard) (fun k=>e61_0 sh guard _ k) hI hpl hc fun a1 w1 hc1=>?_)
  refine wpIn_seq (vstepH (l:=[sp92]) (all_cons c92 all_nil) [] Ue61_1 (st':=sB61 tab) (fun k=>(e61_1 sh guard _ k).trans (by rw [h92];rfl)) hI hpl hc1 fun a2 w2 hc2=>?_)
  refine wpIn_seq (wpIn_seq (vstepH (l:=[]) all_nil [(4000002,[8,66])] Ue61_2 (st':=sC61 tab) (fun k=>e61_2 tab _ k) hI hpl hc2 fun a3 w3 hc3=>?_))
  refine wpIn_cond (t:=false) (bool61 hc3 (j:=22) rfl) ?_
  simp only [Bool.false_eq_true,if_false]
  refine wpIn_skip (wpIn_seq (vstepH (l:=[]) all_nil [] Ue61_4 (st':=stW tab) (fun k=>e61_4 tab _ k) hI hpl hc3 fun a4 w4 hc4=>hQ a4 w4 hc4))
theorem end61 (hI:∀ w,Fr F w0 w->Inv.I Try.prog w) (hpl:∀ j v,M0.pin j=some v->False) {r:Nat} {xs:List Int} {lo hi:Int} (h94:f94 (xs,()) = .ret (lo,hi,())) (hc:ConcH H61 F M0 w0 s (stX tab r xs) a w)
    (hQ:∀ a' w',ConcH H61 F M0 w0 s (sE61 lo hi) a' w'->Q .ret a' w') :
    (Code.seq (.region 10 r61_10 false) .ret).wpIn (fen none) n Try.prog Q a w:=by
  refine wpIn_seq (vstepH (l:=[sp94]) (all_cons c94 all_nil) [] Ue61_10 (st':=sE61 lo hi) (fun k=>(e61_10 tab r xs _ k).trans (by rw [h94];rfl)) hI hpl hc fun a1 w1 hc1=>wpIn_ret (hQ a1 w1 hc1))
end
theorem f61_pan (x:RSH×Int×Value×Unit) (p:Value):f61 x ≠ .pan p:=by
  unfold f61
  intro h
  split at h<;>cases h
theorem results61 {a:Act} {w:World} {b T:Nat} {c0 c1:Value} {e:Int} (h6:tm a 6 = .pointer (some ⟨b,0,none⟩)) (hh:w.heap[b]? = some (.cells #[c0,c1] T (0,0))) (h7:tm a 7 = .int .i64 e):(results Try.f25 a.tmps).run Try.prog w = .ok (.tuple #[.agg #[c0,c1],.int .i64 e]) w:=by
  refine results_pair (r1:=.cell 6 45) (r2:=.tmp 7) (by kernel_rfl) (resV_cell h6 ?_) (congrArg (fun v=>Result.ok v w) h7)
  have:=load_cells (P:=Try.prog) (n:=9) (T:=45) (t:=.prod (.int .i64) (.prod (.int .i64) .unit)) (w:=w) (b:=b) (off:=0) (us':=[]) (c1:=[c0,c1]) (by kernel_rfl) hh rfl rfl
  rw [this]
  rfl
theorem c61:Contract Try.prog sp61:=by
  refine contract_ret rfl f61_pan fun x M w vs r hf hI hvs hlt=>?_
  have hf:f61 x = .ret r:=hf
  unfold f61 at hf
  split at hf
  rotate_left
  . cases hf
  rename_i hS
  cases hf
  obtain ⟨sh,guard,fv,u⟩:=x
  obtain ⟨hfn,⟨tab,o1,o2,g,kk,h92,hsum,hbd,hkk,hof,h94⟩,_⟩:=hS
  have hfn:fv=Value.func (.func 26) #[] #[]:=hfn
  subst hfn
  have h92:f92 (sh,(guard,())) = .ret (tab,0,()):=h92
  have hst:=startH (H:=H61) (n:=48) (s:=(none:Option Q61)) hvs hlt (fun q hq=>by cases hq) (fun b hb=>by obtain ⟨q,hq,_⟩:=hb;cases hq)
  have hnh:∀ b,¬ H61.hb (none:Option Q61) w b:=fun b hb=>by obtain ⟨q,hq,_⟩:=hb;cases hq
  have hbelow:∀ {w'},Fr (fun k=>k<w.heap.size/\¬ H61.hb (none:Option Q61) w k) w w'->Below w.heap.size w w':=fun h=>⟨h.os,h.tape,h.output,h.size,fun k hk=>h.block k ⟨hk,hnh k⟩⟩
  have hIw:∀ w',Fr (fun k=>k<w.heap.size/\¬ H61.hb (none:Option Q61) w k) w w'->Inv.I Try.prog w':=fun w' hw'=>Inv.below _ _ hI (hbelow hw')
  have hpl:∀ j v,(baseH (H61.hb (none:Option Q61) w) M w).pin j=some v->False:=fun j v hj=>by cases hj
  refine callsIn_wide.1 (callsIn_of_wp_marks (n:=0) Try.func25 some61 trivial ?_)
  refine front61 hIw hpl h92 hst fun a1 w1 hc1=>?_
  refine wpIn_seq (wpIn_seq (q5_wp hIw hsum hc1 fun m r cnt a2 w2 hc2 hcn=>?_))
  refine wpIn_block (wpIn_loop_rounds (kk+1) (loop61 (o1:=o1) (o2:=o2) hIw hpl hbd hkk hof (fun q xs a3 w3 hga hle hc3=>?_) (kk+1) [] (fun k=>(g k).isSome) cnt a2 w2 (by omega) (by simp only [List.length_nil];omega) ⟨fun x hx=>(by cases hx),fun k p hk hl=>by
    rw [hk] at hl;cases hl⟩ hc2))
  refine end61 hIw hpl (h94 xs hga hle) hc3 fun a4 w4 hc4=>?_
  obtain ⟨hfr,Mc,hG⟩:=hc4
  have s6:=hG.2.1.slot 6
  have e6:get (sE61 (-1) 1) 6 = .box [.d (.int .i64) (-1:Int),.d (.int .i64) (1:Int)]:=rfl
  rw [show get (sE61 R61.1.1 R61.1.2.1) 6=_ from e6] at s6
  obtain ⟨b,T,cells,t6,hb,hsz,hMb,hcs⟩:=s6
  have hcells:cells = #[.int .i64 (-1),.int .i64 1]:=by
    have hsz:cells.size=2:=hsz
    have e0:[cells[0]'(by omega)]=[Value.int .i64 (-1)]:=hcs 0 _ (cells[0]'(by omega)) rfl (Array.getElem?_eq_getElem (by omega))
    have e1:[cells[1]'(by omega)]=[Value.int .i64 1]:=hcs 1 _ (cells[1]'(by omega)) rfl (Array.getElem?_eq_getElem (by omega))
    have d0:=(List.cons.inj e0).1
    have d1:=(List.cons.inj e1).1
    apply Array.ext
    . rw [hsz];rfl
    . intro i h1 h2
      have h2:i<2:=h2
      match i,h2 with
      | 0,_=>exact d0
      | 1,_=>exact d1
  subst hcells
  have t7:tm a4 7 = .int .i64 0:=by
    have s7:=hG.2.1.slot 7
    have e7:get (sE61 R61.1.1 R61.1.2.1) 7 = .d (.int .i64) (0:Int):=rfl
    rw [e7] at s7
    obtain ⟨cs,e,h1⟩:=s7
    have h1:cs=[.int .i64 0]:=h1
    subst h1
    exact e
  refine leave_marks (q:=fun D=>w.heap.size<=D) (by simp) (hG.2.1.defers.imp fun D hD=>Nat.le_of_not_lt fun h=>hD ⟨h,hnh D⟩) fun w5 hm=>?_
  have hb5:w5.heap[b]? = some (.cells #[.int .i64 (-1),.int .i64 1] T (0,0)):=(hm.block b ⟨(Array.getElem?_eq_some_iff.1 hb).1,fun _ c e=>by rw [hb] at e;cases e⟩).trans hb
  refine ⟨_,results61 t6 hb5 t7,⟨_,rfl,?_,M,fun b o h=>h,fun b o h=>.inl h,?_,fun b h=>by cases h⟩⟩
  . have h5:=hbelow hfr
    exact ⟨hm.os.trans h5.os,hm.tape.trans h5.tape,hm.output.trans h5.output,Nat.le_trans h5.size hm.size,fun k hk=>(hm.block k ⟨Nat.lt_of_lt_of_le hk h5.size,fun hq=>by have hq:w.heap.size<=k:=hq;omega⟩).trans (h5.block k hk)⟩
  . exact ⟨[_,_],rfl,_,_,rfl,⟨[.int .i64 (-1),.int .i64 1],rfl,[.int .i64 (-1)],_,rfl,rfl,[.int .i64 1],[],rfl,rfl,rfl⟩,_,_,rfl,⟨[.int .i64 0],rfl,rfl⟩,rfl⟩
end Go.V
namespace Go.V
open Go.Proofs
noncomputable def specs29:List Spec:=[sp61]
def hints29:List (Nat×List Nat):=[]
noncomputable def F29 (N:Nat) (x:((Int×(Int×((List Int)×((List Int)×Unit))))×(Int×Unit))):Out ((Int×(Int×Unit))×(Int×Unit)) :=
  match f61 (x.1,(x.2.1,((Value.func (.func 26) #[] #[]),()))) with
  | .ret r_1 =>
    .ret (r_1.1,(r_1.2.1,()))
  | .pan p_2 =>
    .pan p_2
  | .fail=>.fail
theorem e29 (N:Nat) (x:((Int×(Int×((List Int)×((List Int)×Unit))))×(Int×Unit))):vfn Try.prog (phi specs29) hints29 N Try.f12 true false (.prod (.prod (.int .i64) (.prod (.int .i64) (.prod (.list (.int .i64)) (.prod (.list (.int .i64)) .unit)))) (.prod (.int .i64) .unit)) (.prod (.prod (.int .i64) (.prod (.int .i64) .unit)) (.prod (.int .i64) .unit)) x=F29 N x:=by
  kernel_rfl
noncomputable def f29 (x:((Int×(Int×((List Int)×((List Int)×Unit))))×(Int×Unit))):Out ((Int×(Int×Unit))×(Int×Unit)):=F29 fuel x
noncomputable def sp29:Spec:=⟨12,.call,(.prod (.prod (.int .i64) (.prod (.int .i64) (.prod (.list (.int .i64)) (.prod (.list (.int .i64)) .unit)))) (.prod (.int .i64) .unit)),(.prod (.prod (.int .i64) (.prod (.int .i64) .unit)) (.prod (.int .i64) .unit)),true,false,f29⟩
theorem c29:Contract Try.prog sp29:=contract_at (l:=specs29) (arg:=(.prod (.prod (.int .i64) (.prod (.int .i64) (.prod (.list (.int .i64)) (.prod (.list (.int .i64)) .unit)))) (.prod (.int .i64) .unit))) (res:=(.prod (.prod (.int .i64) (.prod (.int .i64) .unit)) (.prod (.int .i64) .unit))) (multi:=true) (own:=false) (F:=f29) mixed (all_cons c61 all_nil) Try.func12 rfl hints29 fun x _=>⟨fuel,e29 fuel x⟩
noncomputable def veil {α:Type} (x:α):α:=Classical.choose (⟨x,rfl⟩:∃ y,y=x)
theorem veil_eq {α:Type} (x:α):veil x=x:=Classical.choose_spec (⟨x,rfl⟩:∃ y,y=x)
@[irreducible] noncomputable def f27v:(((List (List Int))×((List Int)×Unit))×Unit)->Out ((List Int)×(Int×Unit)):=veil f27
theorem f27v_eq:f27v=f27:=by unfold f27v;exact veil_eq f27
noncomputable def sp27v:Spec:=⟨10,.call,(.prod (.prod (.list (.list (.int .i64))) (.prod (.list (.int .i64)) .unit)) .unit),(.prod (.list (.int .i64)) (.prod (.int .i64) .unit)),true,false,f27v⟩
theorem c27v:Contract Try.prog sp27v:=by
  unfold sp27v
  rw [f27v_eq]
  exact c27
@[irreducible] noncomputable def f29v:((Int×(Int×((List Int)×((List Int)×Unit))))×(Int×Unit))->Out ((Int×(Int×Unit))×(Int×Unit)):=veil f29
theorem f29v_eq:f29v=f29:=by unfold f29v;exact veil_eq f29
noncomputable def sp29v:Spec:=⟨12,.call,(.prod (.prod (.int .i64) (.prod (.int .i64) (.prod (.list (.int .i64)) (.prod (.list (.int .i64)) .unit)))) (.prod (.int .i64) .unit)),(.prod (.prod (.int .i64) (.prod (.int .i64) .unit)) (.prod (.int .i64) .unit)),true,false,f29v⟩
theorem c29v:Contract Try.prog sp29v:=by
  unfold sp29v
  rw [f29v_eq]
  exact c29
noncomputable def specs9:List Spec:=[sp28,sp27v,sp30,sp29v,sp31]
def hints9:List (Nat×List Nat):=[]
noncomputable def F9 (N:Nat) (x:Unit):Out Bool :=
  match f27v ((([([(123:Int),(45:Int),(-60:Int),(7:Int)]:List Int),([(132:Int),(45:Int),(60:Int),(7:Int)]:List Int)]:List (List Int)),(([(1:Int),(1:Int)]:List Int),())),()) with
  | .ret r_1 =>
    match f29v (((10:Int),((3:Int),(([(4:Int),(1:Int),(0:Int)]:List Int),(([(13:Int),(26:Int),(44:Int)]:List Int),())))),((1:Int),())) with
    | .ret r_3 =>
      match (r_1.2.1==(0:Int)) with
      | true =>
        match f31 (r_1.1,(([(123:Int),(45:Int),(60:Int),(7:Int)]:List Int),())) with
        | .ret r_5 =>
          match r_5 with
          | true =>
            match (r_3.2.1==(0:Int)) with
            | true =>
              .ret (eqI r_3.1.1 (-1:Int) && (eqI r_3.1.2.1 (1:Int) && true))
            | false =>
              .ret false
          | false =>
            .ret false
        | .pan p_6 =>
          .pan p_6
        | .fail=>.fail
      | false =>
        .ret false
    | .pan p_4 =>
      .pan p_4
    | .fail=>.fail
  | .pan p_2 =>
    .pan p_2
  | .fail=>.fail
theorem e9 (N:Nat) (x:Unit):vfn Try.prog (phi specs9) hints9 N Try.f5 false false .unit .bool x=F9 N x:=by
  kernel_rfl
noncomputable def f9 (x:Unit):Out Bool:=F9 fuel x
noncomputable def sp9:Spec:=⟨5,.call,.unit,.bool,false,false,f9⟩
theorem c9:Contract Try.prog sp9:=contract_at (l:=specs9) (arg:=.unit) (res:=.bool) (multi:=false) (own:=false) (F:=f9) mixed (all_cons c28 (all_cons c27v (all_cons c30 (all_cons c29v (all_cons c31 all_nil))))) Try.func5 rfl hints9 fun x _=>⟨fuel,e9 fuel x⟩
@[irreducible] noncomputable def f9v:Unit->Out Bool:=veil f9
theorem f9v_eq:f9v=f9:=by unfold f9v;exact veil_eq f9
noncomputable def sp9v:Spec:=⟨5,.call,.unit,.bool,false,false,f9v⟩
theorem c9v:Contract Try.prog sp9v:=by
  unfold sp9v
  rw [f9v_eq]
  exact c9
end Go.V
