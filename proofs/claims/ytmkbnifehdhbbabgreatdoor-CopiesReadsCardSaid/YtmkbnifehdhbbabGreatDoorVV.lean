/- Part. -/
import Derived.Test.YtmkbnifehdhbbabGreatDoorVI
set_option linter.all false
noncomputable section
namespace Go.V
section
variable {ρ : Type} (P : Program) (Φ : Nat → List Spec) (hints : List (Nat × List Nat)) (N : Nat)
def oD (E:(X->St->Out ρ)->St->Out ρ):List Nat->Code->(X->St->Out ρ)->St->Out ρ
 | [],_,k,st=>E k st
 | p :: ps,.seq a b,k,st=>(match p with
  | 0=>oD E ps a (fun e s=>match e with | .normal=>bz P Φ hints N b none k s|e=>k e s) st
  | _=>bz P Φ hints N a none (fun e s=>match e with | .normal=>oD E ps b k s|e=>k e s) st)
 | _ :: ps,.block id b,k,st=>oD E ps b (fun e s=>match e with
  | .exit i=>if i=id then k .normal s else k (.exit i) s
  | e=>k e s) st
 | _ :: ps,.scope b,k,st=>oD E ps b k st
 | _,_,_,_=>.fail
end
def vp (P:Program) (Φ:Nat->List Spec) (hints:List (Nat×List Nat)) (N:Nat) (E:{ρ:Type}->(X->St->Out ρ)->St->Out ρ) (path:List Nat) (f:Func) (multi own:Bool) (a t:Ty) (x:a.den):Out t.den :=
 oD P Φ hints N E path (av f) (zB P f.results.toList multi own t) (eM f.ntmps a x)
section
variable {P : Program} [Inv P] {Φ : Nat → List Spec} {ρ : Type}
def rX (P:Program) [Inv P] (c:Code) (E:{ρ:Type}->(X->St->Out ρ)->St->Out ρ):Prop :=
 ∀ {ρ:Type} {fin:Out ρ} (_:fin ≠ .fail) (F:Nat->Prop) (M0:Base) (w0:World) (n:Nat),(∀ w,Fr F w0 w->Inv.I P w)->(∀ j v,M0.pin j=some v->False) ->
  ∀ (k:X->St->Out ρ) (Q:Exit->Act->World->Prop),(∀ p q,fin = .pan p->cN p q->∀ st a w,aK F M0 w0 st a w->Q (.panic [{ v:=q,recovered:=false }]) a w) ->
   (∀ x st a w,aK F M0 w0 st a w->k x st=fin->Q x.exit' a w)->∀ st a w,aK F M0 w0 st a w->E k st=fin->c.wpIn (aA none) n P Q a w
theorem mH (hΦ:∀ g sp,sp∈Φ g->am P sp) (hm:P.follows .mixedOrders=true) (hints:List (Nat×List Nat)) (N:Nat) {fin:Out ρ} (hf:fin ≠ .fail) {E:{ρ:Type}->(X->St->Out ρ)->St->Out ρ} {F:Nat->Prop} {M0:Base} {w0:World} {n:Nat}
 (hI:∀ w,Fr F w0 w->Inv.I P w) (hpl:∀ j v,M0.pin j=some v->False):∀ (path:List Nat) (c r:Code),ic path c=some r->rX P r E->∀ (k:X->St->Out ρ) (Q:Exit->Act->World->Prop),
  (∀ p q,fin = .pan p->cN p q->∀ st a w,aK F M0 w0 st a w->Q (.panic [{ v:=q,recovered:=false }]) a w) ->
  (∀ x st a w,aK F M0 w0 st a w->k x st=fin->Q x.exit' a w)->∀ st a w,aK F M0 w0 st a w->oD P Φ hints N E path c k st=fin->c.wpIn (aA none) n P Q a w
 | [],c,r,hr,hR,k,Q,hp,hQ,st,a,w,hc,h=>by
  cases hr;exact hR hf F M0 w0 n hI hpl k Q hp hQ st a w hc h
 | 0 :: ps,.seq x y,r,hr,hR,k,Q,hp,hQ,st,a,w,hc,h=>by
  refine wpIn_seq (mH hΦ hm hints N hf hI hpl ps x r hr hR _ _ ?_ ?_ st a w hc h)
  . intro p q e hq st a w hc;exact hp p q e hq st a w hc
  . intro e st a w hc h;cases e with
    | normal=>exact ig hΦ hm hints N hf y F M0 w0 none none n (fun _=>rfl) hI (fun j v hj=>(hpl j v hj).elim) k Q (fun _=>hp) hQ st a w hc h
    | exit i=>exact hQ (.exit i) st a w hc h
    | ret=>exact hQ .ret st a w hc h
 | (_+1) :: ps,.seq x y,r,hr,hR,k,Q,hp,hQ,st,a,w,hc,h=>by
  refine wpIn_seq (ig hΦ hm hints N hf x F M0 w0 none none n (fun _=>rfl) hI (fun j v hj=>(hpl j v hj).elim) _ _ ?_ ?_ st a w hc h)
  . intro _ p q e hq st a w hc;exact hp p q e hq st a w hc
  . intro e st a w hc h;cases e with
    | normal=>exact mH hΦ hm hints N hf hI hpl ps y r hr hR k Q hp hQ st a w hc h
    | exit i=>exact hQ (.exit i) st a w hc h
    | ret=>exact hQ .ret st a w hc h
 | _ :: ps,.block id b,r,hr,hR,k,Q,hp,hQ,st,a,w,hc,h=>by
  refine wpIn_block (mH hΦ hm hints N hf hI hpl ps b r hr hR _ _ ?_ ?_ st a w hc h)
  . intro p q e hq st a w hc;exact hp p q e hq st a w hc
  . intro x st a w hc h;cases x with
    | normal=>exact hQ .normal st a w hc h
    | ret=>exact hQ .ret st a w hc h
    | exit i =>
     show if i=id then _ else _
     dsimp only at h;split
     . rename_i e;rw [if_pos e] at h;exact hQ .normal st a w hc h
     . rename_i e;rw [if_neg e] at h;exact hQ (.exit i) st a w hc h
 | _ :: ps,.scope b,r,hr,hR,k,Q,hp,hQ,st,a,w,hc,h=>by
  refine wpIn_wide.2 (wp_scope_straight ((wpIn_wide (n:=n)).1 (mH hΦ hm hints N hf hI hpl ps b r hr hR k _ ?_ ?_ st a w hc h)))
  . intro p q e hq st a w hc;exact hp p q e hq st a w hc
  . intro x st a w hc h;have:=hQ x st a w hc h;cases x<;>exact this
 | _ :: _,.skip,_,hr,_,_,_,_,_,_,_,_,_,_=>by cases hr
 | _ :: _,.region _ _ _,_,hr,_,_,_,_,_,_,_,_,_,_=>by cases hr
 | _ :: _,.cond _ _ _,_,hr,_,_,_,_,_,_,_,_,_,_=>by cases hr
 | _ :: _,.loop _,_,hr,_,_,_,_,_,_,_,_,_,_=>by cases hr
 | _ :: _,.rangeFunc _ _ _ _,_,hr,_,_,_,_,_,_,_,_,_,_=>by cases hr
 | _ :: _,.exit _,_,hr,_,_,_,_,_,_,_,_,_,_=>by cases hr
 | _ :: _,.label _,_,hr,_,_,_,_,_,_,_,_,_,_=>by cases hr
 | _ :: _,.goto _,_,hr,_,_,_,_,_,_,_,_,_,_=>by cases hr
 | _ :: _,.ret,_,hr,_,_,_,_,_,_,_,_,_,_=>by cases hr
 | _ :: _,.refuse _,_,hr,_,_,_,_,_,_,_,_,_,_=>by cases hr
theorem Nl (hm:P.follows .mixedOrders=true) {l:List Spec} (hl:∀ sp∈l,am P sp) {fnn:Nat} {arg res:Ty} {multi own:Bool} {F:arg.den->Out res.den} {fn:Func} {c r:Code}
 (hfn:P.funcs[fnn]? = some fn) (hb:fn.body=some c) {E:{ρ:Type}->(X->St->Out ρ)->St->Out ρ} {path:List Nat} (hr:ic path c=some r) (hR:rX P r E) (hints:List (Nat×List Nat))
 (h:∀ x,F x ≠ .fail->∃ n,vp P (ah l) hints n E path fn multi own arg res x=F x):am P ⟨fnn,.call,arg,res,multi,own,F⟩:=by
 intro x M w vs hI hvs hlt;have hI':∀ w',Fr (· < w.heap.size) w w'->Inv.I P w':=fun w' hf=>Inv.below _ _ hI hf.toBelow
 have hdm:∀ D,(gi M w).dm D->¬ (D<w.heap.size):=fun D hD=>Nat.not_lt.2 hD
 have hst:=u5 (n:=fn.ntmps) hvs hlt;cases hx:F x with
 | fail=>simp only [hx]
 | ret r0 =>
  obtain ⟨n,hv⟩:=h x (by rw [hx];simp);rw [hx] at hv;unfold vp av at hv;rw [hb] at hv;simp only [hx];refine callsIn_wide.1 (callsIn_of_wp_marks (n:=0) hfn hb trivial (mH (eK hl) hm hints n (by simp) hI' (fun j v hj=>by cases hj) path c r hr hR _ _ ?_ ?_ _ _ _ ⟨Fr.refl _ _,M,hst⟩ hv))
  . intro p q hp;cases hp
  . intro e st a w' hc hk;have key:dH P fn.results.toList multi own res st = .ret r0->LeavesInM Fence.wide 0 P fn a.tmps (fun e w'=>∃ v,e = .returned v/\Go.RowKit.Below w.heap.size w w'/\eA M w w' multi own res v r0) a.defers .returning w':=by
     intro hk;obtain ⟨hb',M',hg⟩:=hc;refine gR (M0:=gi M w) (F:=(· < w.heap.size)) (w0:=w) (st:=st) (by simp) (fun M2 w2 hg2 hf2=>?_) hdm a.defers M' w' hg hb';obtain ⟨r',h1,v,h2,h3,h4⟩:=iS (fn:=fn) hg2 (by simp) hk;cases h1;refine ⟨v,h2,v,rfl,hf2.toBelow,M2,hg2.up,fun b o hM=>?_,h3,fun b h5 h6=>Nat.le_of_not_lt (h4 b h5 h6)⟩;rcases Nat.lt_or_ge b w.heap.size with h5|h5
     . exact .inl (hg2.down b o h5 hM)
     . exact .inr ⟨h5,hg2.lt b o hM⟩
    cases e with
    | normal=>exact key hk
    | ret=>exact key hk
    | exit i=>cases hk
 | pan p =>
  obtain ⟨n,hv⟩:=h x (by rw [hx];simp);rw [hx] at hv;unfold vp av at hv;rw [hb] at hv;simp only [hx];refine callsIn_wide.1 (callsIn_of_wp_marks (n:=0) hfn hb trivial (mH (eK hl) hm hints n (by simp) hI' (fun j v hj=>by cases hj) path c r hr hR _ _ ?_ ?_ _ _ _ ⟨Fr.refl _ _,M,hst⟩ hv))
  . intro p' q hp hq st a w' hc;cases hp;obtain ⟨hb',M',hg⟩:=hc;exact gR (M0:=gi M w) (F:=(· < w.heap.size)) (w0:=w) (st:=st) (R:=fun e w'=>(∃ q,cN p q/\e = .panicked [{ v:=q,recovered:=false }])/\Go.RowKit.Below w.heap.size w w') (mode:=.panicking [{ v:=q,recovered:=false }]) (by simp)
     (fun M2 w2 hg2 hf2=>⟨⟨q,hq,rfl⟩,hf2.toBelow⟩) hdm a.defers M' w' hg hb'
  . intro e st a w' hc hk;obtain ⟨hb',M',hg⟩:=hc;have key:dH P fn.results.toList multi own res st ≠ .pan p:=by
     intro hk;obtain ⟨r',h1,_⟩:=iS (fn:=fn) hg (by simp) hk;cases h1
    cases e with
    | normal=>exact absurd hk key
    | ret=>exact absurd hk key
    | exit i=>cases hk
end
abbrev mt:=St->Option St
section
variable {ρ : Type} (P : Program) (Φ : Nat → List Spec)
def jl (H:Nat->Option (Nat×mt)) (kp:Nat->Value->Out ρ) (ops:Array Oper) (k:St->Out ρ):List Oper->Nat->Nat->St->Out ρ
 | [],_,0,st=>k st
 | [],_,_+1,_=>.fail
 | _ :: rest,i,c+1,st=>jl H kp ops k rest (i+1) c st
 | o :: rest,i,0,st=>match H i with
  | some y=>(match y.2 st with
   | some st'=>jl H kp ops k rest (i+1) y.1 st'
   | none=>.fail)
  | none=>oE P Φ kp ops o (fun _ st'=>jl H kp ops k rest (i+1) 0 st') st
end
section
variable {P : Program} [Inv P] {Φ : Nat → List Spec} {ρ : Type}
def xj (P:Program) [Inv P] (ops:Array Oper) (i c:Nat) (g:mt):Prop :=
 ∀ (F:Nat->Prop) (M0:Base) (w0:World) (n:Nat),(∀ w,Fr F w0 w->Inv.I P w)->(∀ j v,M0.pin j=some v->False) ->
  ∀ (Q:Exit->Act->World->Prop) (rest:List Nat) st a w st',aK F M0 w0 st a w->g st=some st'->(∀ a' w',aK F M0 w0 st' a' w'->wpOpsIn (aA none) n P ops Q rest a' w') ->
   wpOpsIn (aA none) n P ops Q (List.range' i (c+1)++rest) a w
theorem Gl {H:Nat->Option (Nat×mt)} {kp:Nat->Value->Out ρ} {ops:Array Oper} {k:St->Out ρ} {fin:Out ρ} (hf:fin ≠ .fail):∀ (l:List Oper) (i c:Nat) (st:St),jl P Φ H kp ops k l i c st=fin->c<=l.length/\jl P Φ H kp ops k (l.drop c) (i+c) 0 st=fin
 | l,i,0,st,h=>⟨Nat.zero_le _,h⟩
 | [],i,c+1,st,h=>absurd h.symm hf
 | o :: l,i,c+1,st,h=>by
  obtain ⟨h1,h2⟩:=Gl hf l (i+1) c st h;refine ⟨by simpa using h1,?_⟩;have e:i+1+c=i+(c+1):=by omega
  rw [e] at h2;exact h2
theorem Rz (hΦ:∀ g sp,sp∈Φ g->am P sp) {F:Nat->Prop} {M0:Base} {w0:World} (hI:∀ w,Fr F w0 w->Inv.I P w) (hpl:∀ j v,M0.pin j=some v->False) {n:Nat} {ops:Array Oper} {H:Nat->Option (Nat×mt)} {kp:Nat->Value->Out ρ} {k:St->Out ρ} {fin:Out ρ} (hf:fin ≠ .fail) {Q:Exit->Act->World->Prop}
 (hH:∀ i y,H i=some y->xj P ops i y.1 y.2)
 (hpan:∀ g p q,kp g p=fin->cN p q->∀ st a w,aK F M0 w0 st a w->Q (.panic [{ v:=q,recovered:=false }]) a w)
 (hk:∀ st a w,aK F M0 w0 st a w->k st=fin->Q .normal a w) :
 ∀ (m:Nat) (l:List Oper),l.length<=m->∀ (i:Nat) (st:St) (a:Act) (w:World),(∀ j,l[j]? = ops[i+j]?)->aK F M0 w0 st a w->jl P Φ H kp ops k l i 0 st=fin->wpOpsIn (aA none) n P ops Q (List.range' i l.length) a w:=by
 intro m
 induction m with
 | zero =>
  intro l hm i st a w hl hc h;obtain rfl:l=[]:=List.eq_nil_of_length_eq_zero (by omega);exact hk st a w hc h
 | succ m ih =>
  intro l hm i st a w hl hc h;cases l with
  | nil=>exact hk st a w hc h
  | cons o l =>
   have hm':l.length<=m:=by simpa using hm
   have hl':∀ j,l[j]? = ops[i+1+j]? := fun j=>by have:=hl (j+1);simpa [Nat.add_assoc,Nat.add_comm 1 j] using this
   have hi:ops[i]? = some o:=by simpa using (hl 0).symm
   unfold jl at h;cases hy:H i with
   | none =>
    rw [hy] at h;dsimp only at h;simp only [List.length_cons,List.range'_succ];rw [wpOpsIn_cons];rcases vt hf h with ⟨g,wr,hd,hk'⟩|⟨g,p,hp,_,_,hpn⟩
    . exact yp hΦ hI hc hi hd fun a' w' hc'=>ih l hm' (i+1) _ a' w' hl' hc' hk'
    . exact zT hΦ hI hc hi hpn fun q w' hq hc'=>hpan g p q hp hq _ _ _ hc'
   | some y =>
    rw [hy] at h;dsimp only at h;cases hs:y.2 st with
    | none=>rw [hs] at h;exact absurd h.symm hf
    | some st' =>
     rw [hs] at h;dsimp only at h;obtain ⟨h1,h2⟩:=Gl hf l (i+1) y.1 st' h;have e:List.range' i (o :: l).length=List.range' i (y.1+1)++List.range' (i+1+y.1) (l.drop y.1).length:=by
      have e1:(o :: l).length=(y.1+1)+(l.drop y.1).length:=by rw [List.length_cons,List.length_drop];omega
      have e2:i+1+y.1=i+1 * (y.1+1):=by omega
      rw [e1,e2,List.range'_append]
     rw [e];refine hH i y hy F M0 w0 n hI hpl Q _ st a w st' hc hs fun a' w' hc'=>ih _ (by rw [List.length_drop];omega) _ st' a' w' (fun j=>?_) hc' h2
     rw [List.getElem?_drop,hl']
     congr 1
     omega
theorem Ru (hΦ:∀ g sp,sp∈Φ g->am P sp) (hints:List (Nat×List Nat)) {H:Nat->Option (Nat×mt)} {id:Nat} {ops:Array Oper} (hH:∀ i y,H i=some y->xj P ops i y.1 y.2) :
 rX P (.region id ops false) (fun {ρ} k st=>jl P Φ H (fun _ p=>(.pan p:Out ρ)) ops (fun s=>k .normal s) ops.toList 0 0 (frz P hints id (st.map aR))):=by
 intro ρ fin hf F M0 w0 n hI hpl k Q hp hQ st a w hc h;have hc:=hc.frz (P:=P) (hints:=hints) (id:=id) fun j v hj=>(hpl j v hj).elim
 refine wpIn_region ?_;have:=Rz (F:=F) (M0:=M0) (w0:=w0) (n:=n) (ops:=ops) hΦ hI hpl hf (Q:=Q) hH (fun g p q hk hq st a w hc=>hp p q hk.symm hq st a w hc)
  (fun st a w hc h=>hQ .normal st a w hc h) _ ops.toList (Nat.le_refl _) 0 _ a w (fun j=>by simp) hc h
 rw [List.range_eq_range']
 simpa using this
end
structure Hd where
 run:{ρ:Type}->(X->St->Out ρ)->St->Out ρ
def fi:List Nat->Code->Option Code
 | [],c=>some c
 | p :: ps,.seq a b=>(match p with|0=>fi ps a|_=>fi ps b)
 | p :: ps,.cond _ a b=>(match p with|0=>fi ps a|_=>fi ps b)
 | _ :: ps,.block _ b=>fi ps b
 | _ :: ps,.loop b=>fi ps b
 | _ :: ps,.scope b=>fi ps b
 | _,_=>none
def AR (c:Operand) (st:St) (b:Bool):St:=match c with | .tmp t=>st.set t (.d .bool b)|_=>st
theorem uE {c:Operand} {st:St} {v:Bool} (e:ak st c = .d .bool v):AR c st v=st:=by
 cases c with
 | tmp t=>exact lV e (by simp)
 | _=>rfl
section
variable {ρ : Type} (P : Program) (Φ : Nat → List Spec) (hints : List (Nat × List Nat)) (N : Nat)
end
section
variable {P : Program} [Inv P] {Φ : Nat → List Spec} {ρ : Type}
end
open Go.RowKit (Below)
structure Hole where
 σ:Type
 hb:σ->World->Nat->Prop
 I:σ->ai->World->Prop
 keep:∀ s M w M' w',I s M w->aL M w M' w'->(∀ b,hb s w b->w'.heap[b]? = w.heap[b]?)->I s M' w'
 same:∀ s M w w',I s M w->(∀ b,hb s w b->w'.heap[b]? = w.heap[b]?)->∀ b,hb s w' b->hb s w b
 lt:∀ s M w b,I s M w->hb s w b->b<w.heap.size
 nd:∀ s M w b c,I s M w->hb s w b->w.heap[b]? ≠ some (.deferred c)
def Hole.Free (H:Hole):Prop:=(∀ s M w M' w',H.I s M w->(∀ b,H.hb s w b->w'.heap[b]? = w.heap[b]?)->H.I s M' w')/\∀ s w w' b,H.hb s w b->H.hb s w' b
def bv (H:Hole) (F:Nat->Prop) (M0:Base) (s:H.σ) (M:ai) (st:St) (a:Act) (w:World):Prop :=
 H.I s M w/\Good M0 F M st a w/\∀ b,H.hb s w b->¬ F b/\(∀ o,M b o)/\∀ i k,¬ ap st a w i k b
def bH (H:Hole) (F:Nat->Prop) (M0:Base) (w0:World) (s:H.σ) (st:St) (a:Act) (w:World):Prop:=Fr F w0 w/\∃ M,bv H F M0 s M st a w
def jI (M0:Base) (B:Nat->Prop) (M:ai) (w:World):Base:={ mu:=fun b o=>M0.mu b o\/B b,ms:=M,ws:=w,pin:=M0.pin,dm:=fun D=>M0.dm D/\¬ B D }
theorem GM {q q':Nat->Prop} {w:World} (h:∀ D,q D->w.heap[D]? = some (.deferred (some []))->q' D):∀ {ds:List Deferred},dv q w ds->dv q' w ds
 | [],_=>trivial
 | _ :: _,⟨⟨D,e,h1,h2⟩,h3,h4⟩=>⟨⟨D,e,h1,h D h2 h1⟩,h3,GM h h4⟩
section
variable {H : Hole} {F : Nat → Prop} {M0 : Base} {w0 : World} {s s' : H.σ} {M : ai} {st : St} {a : Act} {w : World}
theorem bv.focus (h:bv H F M0 s M st a w):Good (jI M0 (H.hb s w) M w) (fun b=>F b\/H.hb s w b) M st a w:=by
 obtain ⟨hH,hg,hh⟩:=h;refine ⟨GM (fun D h1 h2=>⟨h1,fun hB=>H.nd s M w D _ hH hB h2⟩) hg.defers,hg.size,fun b hb=>hb.elim (hg.room b) (H.lt s M w b hH),fun b o hm=>hm.imp (hg.base b o) id,fun b o hm=>hm.elim (hg.up b o) fun hB=>(hh b hB).2.1 o,hg.lt,
  fun b o hb hm=>?_,hg.slot,hg.one,fun i k b ho hb=>?_,l_ _ _,hg.pin,fun D hD=>⟨hg.dm D fun hF=>hD (.inl hF),fun hB=>hD (.inr hB)⟩⟩
 . rcases hb with hF|hB
   . exact .inl (hg.down b o hF hm)
   . exact .inr hB
 . rcases hb with hF|hB
   . exact hg.new i k b ho hF
   . exact (hh b hB).2.2 i k ho
theorem bv.unfocus (h:bv H F M0 s M st a w) {M':ai} {st':St} {a':Act} {w':World} (hf:Fr (fun b=>F b\/H.hb s w b) w w') (hg':Good (jI M0 (H.hb s w) M w) (fun b=>F b\/H.hb s w b) M' st' a' w'):bv H F M0 s M' st' a' w':=by
 obtain ⟨hH,hg,hh⟩:=h;have hsm:=H.same s M w w' hH fun b hb=>hf.block b (.inr hb)
 refine ⟨H.keep s M w M' w' hH hg'.keep fun b hb=>hf.block b (.inr hb),?_,fun b hb=>⟨(hh b (hsm b hb)).1,fun o=>hg'.up b o (.inr (hsm b hb)),fun i k ho=>hg'.new i k b ho (.inr (hsm b hb))⟩⟩;exact ⟨hg'.defers.imp fun D hD=>hD.1,hg'.size,fun b hb=>hg'.room b (.inl hb),hg.base,fun b o hm=>hg'.up b o (.inl hm),hg'.lt,fun b o hF hm=>(hg'.down b o (.inl hF) hm).resolve_right fun hB=>(hh b hB).1 hF,
  hg'.slot,hg'.one,fun i k b ho hF=>hg'.new i k b ho (.inl hF),hg.keep.trans hg'.keep,hg'.pin,hg.dm⟩
theorem jQ {A B:Nat->Prop} {w w':World} (h:Fr (fun b=>A b\/B b) w w'):Fr A w w':=⟨h.os,h.tape,h.output,h.size,fun k hk=>h.block k (.inl hk)⟩
theorem bH.lift (h:bH H F M0 w0 s st a w) :
 ∃ N0:Base,(∀ j v,N0.pin j=some v->M0.pin j=some v)/\aK (fun b=>F b\/H.hb s w b) N0 w st a w/\∀ st' a' w',aK (fun b=>F b\/H.hb s w b) N0 w st' a' w'->bH H F M0 w0 s st' a' w':=by
 obtain ⟨hfr,M,h⟩:=h;exact ⟨jI M0 (H.hb s w) M w,fun j v hj=>hj,⟨Fr.refl _ _,M,h.focus⟩,fun st' a' w' ⟨hf,M',hg'⟩=>⟨hfr.trans (jQ hf),M',h.unfocus hf hg'⟩⟩
theorem bv.turn (h:bv H F M0 s M st a w) {w':World} (hf:Fr (fun k=>k<w.heap.size/\¬ H.hb s w k) w w') (hs:∀ w1:World,w1.heap.size=w.heap.size->Fr (fun k=>k<w.heap.size/\¬ H.hb s w k) w w1->(∀ k,H.hb s w k->w1.heap[k]? = w'.heap[k]?)->H.I s' M w1/\∀ b,H.hb s' w1 b->H.hb s w b) :
 ∃ w1,bv H F M0 s' M st a w1/\w1.heap.size=w.heap.size/\Below w1.heap.size w1 w'/\Fr F w w1:=by
 obtain ⟨hH,hg,hh⟩:=h
 classical
 obtain ⟨w1,hw1⟩:∃ w1:World,w1={ w with heap:=w.heap.mapIdx fun i ob=>if H.hb s w i then (w'.heap[i]?).getD ob else ob }:=⟨_,rfl⟩
 have hsz:w1.heap.size=w.heap.size:=by rw [hw1];simp
 have hin:∀ k,H.hb s w k->w1.heap[k]? = w'.heap[k]? := fun k hk=>by
  have hlt:k<w.heap.size:=H.lt s M w k hH hk;have hlt':k<w'.heap.size:=Nat.lt_of_lt_of_le hlt hf.size;rw [hw1];simp [hk,hlt,hlt']
 have hout:∀ k,¬ H.hb s w k->w1.heap[k]? = w.heap[k]? := fun k hk=>by
  rw [hw1];simp only [Array.getElem?_mapIdx,if_neg hk];cases w.heap[k]? <;> rfl
 have hos:w1.os=w.os/\w1.tape=w.tape/\w1.output=w.output:=by rw [hw1];exact ⟨rfl,rfl,rfl⟩
 have hFn:∀ b,F b->¬ H.hb s w b:=fun b hF hB=>(hh b hB).1 hF
 have hbl:Fr (· < w1.heap.size) w1 w':=by
  refine ⟨hf.os.trans hos.1.symm,hf.tape.trans hos.2.1.symm,hf.output.trans hos.2.2.symm,hsz ▸ hf.size,fun k hk=>?_⟩
  by_cases hB:H.hb s w k
  . exact (hin k hB).symm
  . rw [hout k hB];exact hf.block k ⟨hsz ▸ hk,hB⟩
 obtain ⟨hs1,hsub⟩:=hs w1 hsz ⟨hos.1,hos.2.1,hos.2.2,Nat.le_of_eq hsz.symm,fun k hk=>hout k hk.2⟩ hin;refine ⟨w1,⟨hs1,?_,fun b hb=>?_⟩,hsz,hbl.toBelow,⟨hos.1,hos.2.1,hos.2.2,Nat.le_of_eq hsz.symm,fun k hF=>hout k (hFn k hF)⟩⟩
 . refine hg.world (M':=M) (fun b o v hc hm=>⟨?_,hm⟩) (Nat.le_of_eq hsz.symm) hg.up (fun b o hm=>hsz ▸ hg.lt b o hm) hg.down (fun D c e=>(hout D fun hB=>H.nd s M w D c hH hB e).trans e) fun i k b ho=>⟨hout b fun hB=>(hh b hB).2.2 i k ho,fun _ h=>h⟩
   exact (World.cell?_of_block (a:=⟨b,o,none⟩) (hout b fun hB=>hm ((hh b hB).2.1 o))).trans hc
 . obtain ⟨h1,h2,h3⟩:=hh b (hsub b hb);exact ⟨h1,h2,fun i k ho=>h3 i k (cM (fun i b' ho'=>hout b' fun hB=>(hh b' hB).2.2 i none ho') ho)⟩
end
def fe (P:Program) [Inv P] (H:Hole) (s:H.σ) (sp:Spec):Prop :=
 ∀ (x:sp.arg.den) (M:ai) (w:World) (vs:Array Value) (r:sp.res.den),Inv.I P w->H.I s M w->bN M w sp.arg vs.toList x->(∀ b o,M b o->b<w.heap.size)->(∀ b,H.hb s w b->∀ o,M b o)->sp.f x = .ret r ->
  Calls P sp.fn vs w fun e w'=>∃ v,e = .returned v/\Fr (fun k=>k<w.heap.size/\¬ H.hb s w k) w w'/\(∀ w1:World,w1.heap.size=w.heap.size->Fr (fun k=>k<w.heap.size/\¬ H.hb s w k) w w1->(∀ k,H.hb s w k->w1.heap[k]? = w'.heap[k]?)->H.I s M w1/\∀ b,H.hb s w1 b->H.hb s w b)/\eA M w w' sp.multi sp.own sp.res v r
def cT (P:Program) [Inv P] (H:Hole) (s:H.σ) (sp:Spec):Prop:=am P sp\/(sp.kind = .call/\fe P H s sp)
inductive Outs (H:Hole) where
 | some (l:List (H.σ×St))
 | each (f:Value->H.σ×St)
def Outs.mem {H:Hole} (z:H.σ×St):Outs H->Prop
 | .some l=>z∈l
 | .each f=>∃ v,z=f v
structure HdH (H:Hole) where
 run:{ρ:Type}->(X->H.σ->St->Out ρ)->H.σ->St->Out ρ
def cg {α:Type 1} (i:Nat):List (List Nat×α)->List (List Nat×α)
 | []=>[]
 | (j :: ps,E) :: T=>if j=i then (ps,E) :: cg i T else cg i T
 | ([],_) :: T=>cg i T
def yR {α:Type 1}:List (List Nat×α)->Option α
 | []=>none
 | ([],E) :: _=>some E
 | (_ :: _,_) :: T=>yR T
def iK {α:Type 1} {ρ:Type} (T:List (List Nat×α)) (old:Out ρ) (hand:α->Out ρ) (new:Out ρ):Out ρ :=
 match T with
 | []=>old
 | _ :: _=>(match yR T with
  | some E=>hand E
  | none=>new)
def mZ {σ ρ:Type} (f:(X->σ->St->Out ρ)->σ->St->Out ρ) (mask:St->St) (k:X->σ->St->Out ρ):Nat->σ->St->Out ρ
 | 0,_,_=>.fail
 | n+1,s,st=>f (fun e s st=>match e with | .normal=>mZ f mask k n s (mask st)|e=>k e s st) s st
def mD {α:Type} (a b:Out α):Out α:=open Classical in if a=b then a else .fail
theorem LJ {α:Type} {a b fin:Out α} (hf:fin ≠ .fail) (h:mD a b=fin):a=fin/\b=fin:=by
 unfold mD at h;split at h
 . rename_i e;exact ⟨h,e ▸ h⟩
 . exact absurd h.symm hf
theorem LH {α:Type} {a b:Out α} (h:a=b):mD a b=a:=by
 unfold mD;rw [if_pos h]
def sC {α ρ:Type} (go:α->Out ρ):List α->Out ρ
 | []=>.fail
 | [z]=>go z
 | z :: y :: zs=>mD (go z) (sC go (y :: zs))
theorem DN {α ρ:Type} {go:α->Out ρ} {fin:Out ρ} (hf:fin ≠ .fail):∀ {l:List α},sC go l=fin->l≠[]/\∀ z∈l,go z=fin
 | [],h=>absurd h.symm hf
 | [z],h=>⟨by simp,fun y hy=>by rw [List.mem_singleton] at hy;subst hy;exact h⟩
 | z :: y :: zs,h=>by
  obtain ⟨h1,h2⟩:=LJ hf h;obtain ⟨_,h3⟩:=DN hf h2;refine ⟨by simp,fun x hx=>?_⟩;rcases List.mem_cons.1 hx with rfl|hx
  . exact h1
  . exact h3 x hx
def eD {α ρ:Type} (go:α->Out ρ):Out ρ:=open Classical in if h:∃ r,∀ z,go z=r then h.choose else .fail
theorem Dy {α ρ:Type} {go:α->Out ρ} {fin:Out ρ} (hf:fin ≠ .fail) (h:eD go=fin):∀ z,go z=fin:=by
 unfold eD at h;split at h
 . rename_i he;intro z;rw [<- h];exact he.choose_spec z
 . exact absurd h.symm hf
theorem iZ {α ρ:Type} [Inhabited α] {go:α->Out ρ} {r:Out ρ} (h:∀ z,go z=r):eD go=r:=by
 unfold eD;have he:∃ r,∀ z,go z=r:=⟨r,h⟩
 rw [dif_pos he];exact (he.choose_spec default).symm.trans (h default)
def qL {H:Hole} {ρ:Type} (go:H.σ×St->Out ρ):Outs H->Out ρ
 | .some l=>sC go l
 | .each f=>eD fun v=>go (f v)
theorem He {H:Hole} {ρ:Type} {go:H.σ×St->Out ρ} {fin:Out ρ} (hf:fin ≠ .fail):∀ {o:Outs H},qL go o=fin->(∃ z,o.mem z)/\∀ z,o.mem z->go z=fin
 | .some l,h=>by
  obtain ⟨h1,h2⟩:=DN hf (show sC go l=fin from h);obtain ⟨z,hz⟩:=List.exists_mem_of_ne_nil _ h1;exact ⟨⟨z,hz⟩,h2⟩
 | .each f,h=>by
  have h1:=Dy hf (show (eD fun v=>go (f v))=fin from h);exact ⟨⟨f default,default,rfl⟩,fun z ⟨v,hv⟩=>hv ▸ h1 v⟩
section
variable {ρ : Type} (P : Program) (H : Hole) (Φ : Nat → List Spec) (hints : List (Nat × List Nat)) (N : Nat)
def ct:Code->List (List Nat×HdH H)->(X->H.σ->St->Out ρ)->H.σ->St->Out ρ
 | .seq a b,T,k,s,st=>iK T (bz P Φ hints N (.seq a b) none (fun x st=>k x s st) st) (fun E=>E.run k s st) (ct a (cg 0 T) (fun e s st=>match e with | .normal=>ct b (cg 1 T) k s st|e=>k e s st) s st)
 | .cond c a b,T,k,s,st=>iK T (bz P Φ hints N (.cond c a b) none (fun x st=>k x s st) st) (fun E=>E.run k s st)
  (match ak st c with
   | .d .bool v=>(match v with
    | true=>ct a (cg 0 T) k s (AR c st true)
    | false=>ct b (cg 1 T) k s (AR c st false))
   | _=>.fail)
 | .block id b,T,k,s,st=>iK T (bz P Φ hints N (.block id b) none (fun x st=>k x s st) st) (fun E=>E.run k s st) (ct b (cg 0 T) (fun e s st=>match e with
  | .exit i=>if i=id then k .normal s st else k (.exit i) s st
  | e=>k e s st) s st)
 | .loop b,T,k,s,st=>iK T (bz P Φ hints N (.loop b) none (fun x st=>k x s st) st) (fun E=>E.run k s st) (mZ (fun k' s st=>ct b (cg 0 T) k' s st) (maskOf hints b) k N s (maskOf hints b st))
 | .scope b,T,k,s,st=>iK T (bz P Φ hints N (.scope b) none (fun x st=>k x s st) st) (fun E=>E.run k s st) (ct b (cg 0 T) k s st)
 | c,T,k,s,st=>iK T (bz P Φ hints N c none (fun x st=>k x s st) st) (fun E=>E.run k s st) .fail
def jG (fin:Code->List (List Nat×HdH H)->(X->H.σ->St->Out ρ)->Out ρ):List Nat->Code->List (List Nat×HdH H)->(X->H.σ->St->Out ρ)->Out ρ
 | [],c,T,k=>fin c T k
 | p :: ps,.seq a b,T,k=>(match p with
  | 0=>jG fin ps a (cg 0 T) (fun e s st=>match e with | .normal=>ct P H Φ hints N b (cg 1 T) k s st|e=>k e s st)
  | _=>jG fin ps b (cg 1 T) k)
 | p :: ps,.cond _ a b,T,k=>(match p with|0=>jG fin ps a (cg 0 T) k|_=>jG fin ps b (cg 1 T) k)
 | _ :: ps,.block id b,T,k=>jG fin ps b (cg 0 T) (fun e s st=>match e with
  | .exit i=>if i=id then k .normal s st else k (.exit i) s st
  | e=>k e s st)
 | n :: ps,.loop b,T,k=>jG fin ps b (cg 0 T) (fun e s st=>match e with | .normal=>mZ (fun k' s st=>ct P H Φ hints N b (cg 0 T) k' s st) (maskOf hints b) k n s (maskOf hints b st)|e=>k e s st)
 | _ :: ps,.scope b,T,k=>jG fin ps b (cg 0 T) k
 | _,_,_,_=>.fail
def qs (rs:List ResultVar) (multi own:Bool) (t:Ty):X->H.σ->St->Out (H.σ×t.den):=fun e s st=>match e with
 | .normal=>(match dH P rs multi own t st with | .ret r=>.ret (s,r)|_=>.fail)
 | .ret=>(match dH P rs multi own t st with | .ret r=>.ret (s,r)|_=>.fail)
 | _=>.fail
def cD (T:List (List Nat×HdH H)) (f:Func) (multi own:Bool) (a t:Ty) (s:H.σ) (x:a.den):Out (H.σ×t.den) :=
 ct P H Φ hints N (av f) T (qs P H f.results.toList multi own t) s (eM f.ntmps a x)
def ev (T:List (List Nat×HdH H)) (f:Func) (multi own:Bool) (t:Ty) (path:List Nat) (n:Nat) (s:H.σ) (st:St):Out (H.σ×t.den) :=
 jG P H Φ hints N (fun c T k=>match c with
  | .loop b=>mZ (fun k' s st=>ct P H Φ hints N b (cg 0 T) k' s st) (maskOf hints b) k n s st
  | _=>.fail) path (av f) T (qs P H f.results.toList multi own t)
def jU (Ψ:H.σ->Nat->List Spec) (D:Nat->Option (Nat×(H.σ->St->Bool×Outs H))) (ops:Array Oper) (k:H.σ->St->Out ρ):List Oper->Nat->Nat->H.σ->St->Out ρ
 | [],_,0,s,st=>k s st
 | [],_,_+1,_,_=>.fail
 | _ :: rest,i,c+1,s,st=>jU Ψ D ops k rest (i+1) c s st
 | o :: rest,i,0,s,st=>match D i with
  | some y=>bif (y.2 s st).1 then qL (fun z=>jU Ψ D ops k rest (i+1) y.1 z.1 z.2) (y.2 s st).2 else .fail
  | none=>oE P (Ψ s) (fun _ _=>.fail) ops o (fun _ st'=>jU Ψ D ops k rest (i+1) 0 s st') st
end
section
variable {P : Program} [Inv P] {H : Hole} {Φ : Nat → List Spec} {ρ : Type}
def h_ (P:Program) [Inv P] (H:Hole) (c:Code) (E:{ρ:Type}->(X->H.σ->St->Out ρ)->H.σ->St->Out ρ):Prop :=
 ∀ {ρ:Type} {fin:Out ρ} (_:fin ≠ .fail) (_:∀ p,fin ≠ .pan p) (F:Nat->Prop) (M0:Base) (w0:World) (n:Nat),(∀ w,Fr F w0 w->Inv.I P w)->(∀ j v,M0.pin j=some v->False) ->
  ∀ (k:X->H.σ->St->Out ρ) (Q:Exit->Act->World->Prop),
   (∀ x s st a w,bH H F M0 w0 s st a w->k x s st=fin->Q x.exit' a w)->∀ s st a w,bH H F M0 w0 s st a w->E k s st=fin->c.wpIn (aA none) n P Q a w
def bG (P:Program) [Inv P] (H:Hole) (c:Code) (T:List (List Nat×HdH H)):Prop:=∀ e∈T,∃ c',fi e.1 c=some c'/\h_ P H c' (fun {ρ} k s st=>e.2.run (ρ:=ρ) k s st)
theorem eH {α:Type 1} {i:Nat} {e:List Nat×α}:∀ {T:List (List Nat×α)},e∈cg i T->(i :: e.1,e.2)∈T
 | [],h=>by cases h
 | (j :: ps,E) :: T,h=>by
  unfold cg at h;split at h
  . rename_i hj;rcases List.mem_cons.1 h with rfl|h
    . subst hj;exact List.mem_cons_self ..
    . exact List.mem_cons_of_mem _ (eH h)
  . exact List.mem_cons_of_mem _ (eH h)
 | ([],_) :: T,h=>List.mem_cons_of_mem _ (eH (T:=T) h)
theorem zO {α:Type 1} {E:α}:∀ {T:List (List Nat×α)},yR T=some E->([],E)∈T
 | [],h=>by cases h
 | ([],_) :: _,h=>by cases h;exact List.mem_cons_self ..
 | (_ :: _,_) :: T,h=>List.mem_cons_of_mem _ (zO (T:=T) h)
theorem dU {c:Code}:bG P H c []:=fun _ h=>absurd h List.not_mem_nil
theorem bJ {c c':Code} {p:List Nat} {E:HdH H} {T:List (List Nat×HdH H)} (h1:fi p c=some c') (h2:h_ P H c' (fun {ρ} k s st=>E.run (ρ:=ρ) k s st)) (hT:bG P H c T):bG P H c ((p,E) :: T):=by
 intro e he;rcases List.mem_cons.1 he with rfl|he
 . exact ⟨c',h1,h2⟩
 . exact hT e he
theorem bG.seq {a b:Code} {T:List (List Nat×HdH H)} (h:bG P H (.seq a b) T):bG P H a (cg 0 T)/\bG P H b (cg 1 T) :=
 ⟨fun e he=>h _ (eH he),fun e he=>h _ (eH he)⟩
theorem bG.cond {c:Operand} {a b:Code} {T:List (List Nat×HdH H)} (h:bG P H (.cond c a b) T):bG P H a (cg 0 T)/\bG P H b (cg 1 T) :=
 ⟨fun e he=>h _ (eH he),fun e he=>h _ (eH he)⟩
def KT (P:Program) [Inv P] (H:Hole) (Φ:Nat->List Spec) (hints:List (Nat×List Nat)) (N:Nat) {ρ:Type} (fin:Out ρ) (c:Code):Prop :=
 ∀ (T:List (List Nat×HdH H)),bG P H c T->∀ (F:Nat->Prop) (M0:Base) (w0:World) (n:Nat),(∀ w,Fr F w0 w->Inv.I P w)->(∀ j v,M0.pin j=some v->False) ->
  ∀ (k:X->H.σ->St->Out ρ) (Q:Exit->Act->World->Prop),
   (∀ x s st a w,bH H F M0 w0 s st a w->k x s st=fin->Q x.exit' a w)->∀ s st a w,bH H F M0 w0 s st a w->ct P H Φ hints N c T k s st=fin->c.wpIn (aA none) n P Q a w
theorem bH.inv {F:Nat->Prop} {M0:Base} {w0:World} {s:H.σ} {st:St} {a:Act} {w:World} (hc:bH H F M0 w0 s st a w) (hI:∀ w,Fr F w0 w->Inv.I P w):∀ w',Fr (fun b=>F b\/H.hb s w b) w w'->Inv.I P w' :=
 fun w' hf=>hI w' (hc.1.trans (jQ hf))
theorem nv (hΦ:∀ g sp,sp∈Φ g->am P sp) (hm:P.follows .mixedOrders=true) (hints:List (Nat×List Nat)) (N:Nat) {fin:Out ρ} (hf:fin ≠ .fail) (hr:∀ p,fin ≠ .pan p) {c:Code} {T:List (List Nat×HdH H)} (hT:bG P H c T) {F:Nat->Prop} {M0:Base} {w0:World} {n:Nat}
 (hI:∀ w,Fr F w0 w->Inv.I P w) (hpl:∀ j v,M0.pin j=some v->False) {k:X->H.σ->St->Out ρ} {Q:Exit->Act->World->Prop}
 (hQ:∀ x s st a w,bH H F M0 w0 s st a w->k x s st=fin->Q x.exit' a w) {s:H.σ} {st:St} {a:Act} {w:World} (hc:bH H F M0 w0 s st a w) {new:Out ρ} (h:iK T (bz P Φ hints N c none (fun x st=>k x s st) st) (fun E=>E.run k s st) new=fin)
 (hnew:new=fin->c.wpIn (aA none) n P Q a w):c.wpIn (aA none) n P Q a w:=by
 unfold iK at h;split at h
 . obtain ⟨N0,hpn,hcl,hback⟩:=hc.lift;exact ig hΦ hm hints N hf c _ _ w none none n (fun _=>rfl) (hc.inv hI) (fun j v hj=>(hpl j v (hpn j v hj)).elim) (fun x st=>k x s st) Q (fun _ p q hp=>absurd hp (hr p)) (fun x st a w hc h=>hQ x s st a w (hback _ _ _ hc) h) st a w hcl h
 . split at h
   . rename_i E hE;obtain ⟨c',e1,e2⟩:=hT _ (zO hE);cases e1;exact e2 hf hr F M0 w0 n hI hpl k Q hQ s st a w hc h
   . exact hnew h
theorem bH.maskOf {F:Nat->Prop} {M0:Base} {w0:World} {s:H.σ} {st:St} {a:Act} {w:World} (h:bH H F M0 w0 s st a w) {hints:List (Nat×List Nat)} {b:Code} (hpl:∀ j v,M0.pin j=some v->False):bH H F M0 w0 s (Go.V.maskOf hints b st) a w:=by
 obtain ⟨N0,hpn,hcl,hback⟩:=h.lift;exact hback _ _ _ (hcl.maskOf fun j v hj=>(hpl j v (hpn j v hj)).elim)
theorem Co (hΦ:∀ g sp,sp∈Φ g->am P sp) (hm:P.follows .mixedOrders=true) (hints:List (Nat×List Nat)) (N:Nat) {fin:Out ρ} (hf:fin ≠ .fail) (hr:∀ p,fin ≠ .pan p):∀ (c:Code),KT P H Φ hints N fin c:=by
 intro c
 induction c with
 | seq x y ihx ihy =>
  intro T hT F M0 w0 n hI hpl k Q hQ s st a w hc h;unfold ct at h;refine nv hΦ hm hints N hf hr hT hI hpl hQ hc h fun h=>?_
  refine wpIn_seq (ihx _ hT.seq.1 F M0 w0 n hI hpl _ _ ?_ s st a w hc h);intro e s st a w hc h;cases e with
  | normal=>exact ihy _ hT.seq.2 F M0 w0 n hI hpl k Q hQ s st a w hc h
  | exit i=>exact hQ (.exit i) s st a w hc h
  | ret=>exact hQ .ret s st a w hc h
 | cond c x y ihx ihy =>
  intro T hT F M0 w0 n hI hpl k Q hQ s st a w hc h;unfold ct at h;refine nv hΦ hm hints N hf hr hT hI hpl hQ hc h fun h=>?_
  split at h;rotate_left
  . exact absurd h.symm hf
  rename_i v e;obtain ⟨hb,M,hg⟩:=id hc;refine wpIn_cond (jy (e ▸ bx hg.2.1 c)) ?_;cases v with
  | true =>
   dsimp only at h;rw [uE e] at h;exact ihx _ hT.cond.1 F M0 w0 n hI hpl k Q hQ s st a w hc h
  | false =>
   dsimp only at h;rw [uE e] at h;exact ihy _ hT.cond.2 F M0 w0 n hI hpl k Q hQ s st a w hc h
 | block id b ih =>
  intro T hT F M0 w0 n hI hpl k Q hQ s st a w hc h;unfold ct at h;refine nv hΦ hm hints N hf hr hT hI hpl hQ hc h fun h=>?_
  refine wpIn_block (ih _ (fun e he=>hT _ (eH he)) F M0 w0 n hI hpl _ _ ?_ s st a w hc h);intro x s st a w hc h;cases x with
  | normal=>exact hQ .normal s st a w hc h
  | ret=>exact hQ .ret s st a w hc h
  | exit i =>
   show if i=id then _ else _
   dsimp only at h;split
   . rename_i e;rw [if_pos e] at h;exact hQ .normal s st a w hc h
   . rename_i e;rw [if_neg e] at h;exact hQ (.exit i) s st a w hc h
 | loop b ih =>
  intro T hT F M0 w0 n hI hpl k Q hQ s st a w hc h;unfold ct at h;refine nv hΦ hm hints N hf hr hT hI hpl hQ hc h fun h=>?_
  have key:∀ m s st a w,bH H F M0 w0 s st a w->mZ (fun k' s st=>ct P H Φ hints N b (cg 0 T) k' s st) (Go.V.maskOf hints b) k m s st=fin->Code.roundsIn (aA none) n P b Q m a w:=by
   intro m
   induction m with
   | zero=>intro s st a w _ h;exact absurd h.symm hf
   | succ m ihm =>
    intro s st a w hc h;refine ih _ (fun e he=>hT _ (eH he)) F M0 w0 n hI hpl _ _ ?_ s st a w hc h;intro x s st a w hc h;cases x with
    | normal=>exact ihm s _ a w (hc.maskOf hpl) h
    | exit i=>exact hQ (.exit i) s st a w hc h
    | ret=>exact hQ .ret s st a w hc h
  exact wpIn_loop_rounds N (key N s _ a w (hc.maskOf hpl) h)
 | scope b ih =>
  intro T hT F M0 w0 n hI hpl k Q hQ s st a w hc h;unfold ct at h;refine nv hΦ hm hints N hf hr hT hI hpl hQ hc h fun h=>?_
  refine wpIn_wide.2 (wp_scope_straight ((wpIn_wide (n:=n)).1 (ih _ (fun e he=>hT _ (eH he)) F M0 w0 n hI hpl k _ ?_ s st a w hc h)));intro x s st a w hc h;have:=hQ x s st a w hc h;cases x<;>exact this
 | _ =>
  intro T hT F M0 w0 n hI hpl k Q hQ s st a w hc h;unfold ct at h;exact nv hΦ hm hints N hf hr hT hI hpl hQ hc h fun h=>absurd h.symm hf
theorem bv.res {F:Nat->Prop} {M0:Base} {s:H.σ} {M:ai} {st:St} {a:Act} {w:World} {o:Oper} (h:bv H F M0 s M st a w) (hnb:dj o st=false) {w':World} (hf:Fr (fun k=>k<w.heap.size/\¬ H.hb s w k) w w') {s':H.σ} (hs:∀ w1:World,w1.heap.size=w.heap.size->Fr (fun k=>k<w.heap.size/\¬ H.hb s w k) w w1->(∀ k,H.hb s w k->w1.heap[k]? = w'.heap[k]?)->H.I s' M w1/\∀ b,H.hb s' w1 b->H.hb s w b) {multi own:Bool} {t:Ty} {v:Value} {r:t.den}
 (hr:eA M w w' multi own t v r):Fr F w w'/\∃ M',bv H F M0 s' M' (app (o.dst.toList.map (·,bP multi own t r)) st) (a.put o.dst v) w':=by
 obtain ⟨w1,h1,hsz,hbel,hf1⟩:=h.turn hf hs;have hr1:eA M w1 w' multi own t v r:=by
  obtain ⟨M',e1,e2,e3,e4⟩:=hr;exact ⟨M',e1,fun b o hm=>by rw [hsz];exact e2 b o hm,e3,fun b e5 e6=>by rw [hsz];exact e4 b e5 e6⟩
 obtain ⟨M',hg'⟩:=h1.focus.res hnb hbel hr1;have hf':Fr (fun b=>F b\/H.hb s' w1 b) w1 w':=Fr.below hbel h1.focus.room;exact ⟨hf1.trans (jQ hf'),M',h1.unfocus hf' hg'⟩
theorem Ew {s:H.σ} (hΦ:∀ g sp,sp∈Φ g->cT P H s sp) {F:Nat->Prop} {M0:Base} {w0:World} (hI:∀ w,Fr F w0 w->Inv.I P w) {n:Nat} {st:St} {a:Act} {w:World} {o:Oper} (hc:bH H F M0 w0 s st a w) {ops:Array Oper} {i:Nat} (hi:ops[i]? = some o) {g:Nat} {wr:List (Nat×S)} (h:fD P Φ ops o st g wr)
 {K:Act->World->Prop} {Q:Exit->Act->World->Prop} (hK:∀ a' w',bH H F M0 w0 s (app wr st) a' w'->K a' w'):wpOpIn (aA none) n P ops Q i K a w:=by
 obtain ⟨hnb,b,hw,hrest⟩:=h;obtain ⟨N0,hpn,⟨hb,M,hg⟩,hback⟩:=hc.lift;have hI':=hc.inv hI;have hwant:=Cs hg hw;unfold wpOpIn;simp only [hi];rw [hwant];cases b with
 | false =>
  rw [if_neg (by simp)];obtain ⟨_,rfl⟩:=hrest;exact ⟨fun f _=>fS none f,hK _ _ (hback _ _ _ ⟨hb,M,hg.fin (lw hnb) rfl ⟨[],rfl,rfl⟩⟩)⟩
 | true =>
  rw [if_pos rfl];rcases hrest.2 with ⟨y,r,hy,hr,rfl⟩|h
  . obtain ⟨h1,hk,e,t1,e2,he,xs,z,ys,hot,v1,v2,g1,g2,g3,g4,g5,g6,g7⟩:=Hc hg hy;rcases hΦ _ _ h1 with hct|⟨hk',_⟩
    rotate_left
    . rw [hk] at hk';cases hk'
    unfold am at hct;rw [hk] at hct;have harr:dB M w e (tm a y.2.2) xs:=by have:=hg.slot y.2.2;rw [g1] at this;exact this
    have hct:=hct e t1 e2 he xs z ys M w (tm a y.2.2) v1 v2 r (hI' _ hb) harr g4 g5 g6 g7 hg.lt (fun x hx=>by
     have:x=y.2.1:=JB he (hx.trans g2.symm);rw [this];exact hr)
    refine ⟨fun f _=>fS none f,?_⟩;rw [JD hy,g3];refine ⟨fun hd=>by rw [jg] at hd;simp at hd,jJ (hct.mono fun e w' he=>?_)⟩;obtain ⟨v,rfl,hb',M',m1,m2,m3,m4⟩:=he;obtain ⟨f1,f2⟩:=hg.take hnb g1 hb' m1 m2 m3 m4;exact hK _ _ (hback _ _ _ ⟨hb.trans f1,M',f2⟩)
  have hne:az P Φ o st ≠ .bad:=by
   rcases h with ⟨rd,h⟩|⟨i,n,rd,f,j,h,_⟩|⟨sp,x,rd,r,h,_⟩<;>rw [h]<;>simp
  refine ⟨fun f _=>fS none f,?_⟩;rw [AQ hne];have fin:aU P (fun b=>F b\/H.hb s w b) N0 w o a w (app wr st)->o.uponIn (aA none) n P a K Q ((execOp a.eval o).run P w):=by
   rintro ⟨v,w',hr,hb',M',hg'⟩;rcases hr with hr|⟨hr,rfl⟩
   . rw [hr];exact hK _ _ (hback _ _ _ ⟨hb',M',hg'⟩)
   . rw [hr];exact hK _ _ (hback _ _ _ ⟨hb',M',hg'⟩)
  rcases h with ⟨rd,h⟩|⟨i,n,rd,f,j,h,hj,hij,rfl⟩|⟨sp,x,rd,r,h,hr,rfl⟩
  . exact fin (Ha hg hb (lw hnb) h rfl)
  . exact fin (G_ hg hb (lw hnb) h hj hij)
  . obtain ⟨h1,hk,vs,h2,h3⟩:=um hg h;rcases hΦ _ _ h1 with hct|⟨_,hct⟩
    . unfold am at hct;rw [hk] at hct;have hct:=hct x M w vs (hI' _ hb) h3 hg.lt;rw [hr] at hct;rw [h2];refine ⟨fun hd=>by rw [jg] at hd;simp at hd,jJ (hct.mono fun e w' he=>?_)⟩;obtain ⟨v,rfl,hb',hres⟩:=he;obtain ⟨M',hg'⟩:=hg.res hnb hb' hres;exact hK _ _ (hback _ _ _ ⟨hb.trans (Fr.below hb' hg.room),M',hg'⟩)
    . obtain ⟨hfr0,M2,hG⟩:=id hc;obtain ⟨h1',hk',vs',h2',h3'⟩:=um hG.2.1 h;have hct:=hct x M2 w vs' r (hI' _ hb) hG.1 h3' hG.2.1.lt (fun b hB=>(hG.2.2 b hB).2.1) hr;rw [h2'];refine ⟨fun hd=>by rw [jg] at hd;simp at hd,jJ (hct.mono fun e w' he=>?_)⟩;obtain ⟨v,rfl,hf',hs',hres⟩:=he;obtain ⟨e1,M',hg'⟩:=hG.res hnb hf' hs' hres;exact hK _ _ ⟨hfr0.trans e1,M',hg'⟩
def bw (P:Program) [Inv P] (H:Hole) (ops:Array Oper) (i c:Nat) (g:H.σ->St->Bool×Outs H):Prop :=
 ∀ (F:Nat->Prop) (M0:Base) (w0:World) (n:Nat),(∀ w,Fr F w0 w->Inv.I P w)->(∀ j v,M0.pin j=some v->False) ->
  ∀ (Q:Exit->Act->World->Prop) (rest:List Nat) s st a w,bH H F M0 w0 s st a w->(g s st).1=true->(∀ z,(g s st).2.mem z->∀ a' w',bH H F M0 w0 z.1 z.2 a' w'->wpOpsIn (aA none) n P ops Q rest a' w') ->
   wpOpsIn (aA none) n P ops Q (List.range' i (c+1)++rest) a w
def dC (P:Program) [Inv P] (H:Hole) (ops:Array Oper) (i:Nat) (g:H.σ->St->Bool×Outs H):Prop :=
 ∀ (F:Nat->Prop) (M0:Base) (w0:World) (n:Nat),(∀ w,Fr F w0 w->Inv.I P w)->(∀ j v,M0.pin j=some v->False) ->
  ∀ (Q:Exit->Act->World->Prop) (K:Act->World->Prop) s st a w,bH H F M0 w0 s st a w->(g s st).1=true->(∀ z,(g s st).2.mem z->∀ a' w',bH H F M0 w0 z.1 z.2 a' w'->K a' w') ->
   wpOpIn (aA none) n P ops Q i K a w
theorem dC.one {ops:Array Oper} {i:Nat} {g:H.σ->St->Bool×Outs H} (h:dC P H ops i g):bw P H ops i 0 g:=by
 intro F M0 w0 n hI hpl Q rest s st a w hc h1 hK;show wpOpsIn (aA none) n P ops Q (i :: rest) a w;rw [wpOpsIn_cons];exact h F M0 w0 n hI hpl Q _ s st a w hc h1 hK
theorem zq {Ψ:H.σ->Nat->List Spec} {D:Nat->Option (Nat×(H.σ->St->Bool×Outs H))} {ops:Array Oper} {k:H.σ->St->Out ρ} {fin:Out ρ} (hf:fin ≠ .fail):∀ (l:List Oper) (i c:Nat) (s:H.σ) (st:St),jU P H Ψ D ops k l i c s st=fin->c<=l.length/\jU P H Ψ D ops k (l.drop c) (i+c) 0 s st=fin
 | l,i,0,s,st,h=>⟨Nat.zero_le _,h⟩
 | [],i,c+1,s,st,h=>absurd h.symm hf
 | o :: l,i,c+1,s,st,h=>by
  obtain ⟨h1,h2⟩:=zq hf l (i+1) c s st h;refine ⟨by simpa using h1,?_⟩;have e:i+1+c=i+(c+1):=by omega
  rw [e] at h2;exact h2
theorem Ry {Ψ:H.σ->Nat->List Spec} (hΨ:∀ s g sp,sp∈Ψ s g->cT P H s sp) {F:Nat->Prop} {M0:Base} {w0:World} (hI:∀ w,Fr F w0 w->Inv.I P w) (hpl:∀ j v,M0.pin j=some v->False) {n:Nat} {ops:Array Oper} {D:Nat->Option (Nat×(H.σ->St->Bool×Outs H))} {k:H.σ->St->Out ρ} {fin:Out ρ} (hf:fin ≠ .fail) {Q:Exit->Act->World->Prop}
 (hD:∀ i y,D i=some y->bw P H ops i y.1 y.2)
 (hk:∀ s st a w,bH H F M0 w0 s st a w->k s st=fin->Q .normal a w) :
 ∀ (m:Nat) (l:List Oper),l.length<=m->∀ (i:Nat) (s:H.σ) (st:St) (a:Act) (w:World),(∀ j,l[j]? = ops[i+j]?)->bH H F M0 w0 s st a w->jU P H Ψ D ops k l i 0 s st=fin->wpOpsIn (aA none) n P ops Q (List.range' i l.length) a w:=by
 intro m
 induction m with
 | zero =>
  intro l hm i s st a w hl hc h;obtain rfl:l=[]:=List.eq_nil_of_length_eq_zero (by omega);exact hk s st a w hc h
 | succ m ih =>
  intro l hm i s st a w hl hc h;cases l with
  | nil=>exact hk s st a w hc h
  | cons o l =>
   have hm':l.length<=m:=by simpa using hm
   have hl':∀ j,l[j]? = ops[i+1+j]? := fun j=>by have:=hl (j+1);simpa [Nat.add_assoc,Nat.add_comm 1 j] using this
   have hi:ops[i]? = some o:=by simpa using (hl 0).symm
   unfold jU at h;cases hy:D i with
   | none =>
    rw [hy] at h;dsimp only at h;simp only [List.length_cons,List.range'_succ];rw [wpOpsIn_cons];rcases vt hf h with ⟨g,wr,hd,hk'⟩|⟨g,p,hp,_,_,hpn⟩
    . exact Ew (hΨ s) hI hc hi hd fun a' w' hc'=>ih l hm' (i+1) s _ a' w' hl' hc' hk'
    . exact absurd hp.symm hf
   | some y =>
    rw [hy] at h;dsimp only at h;cases hcd:(y.2 s st).1 with
    | false=>rw [hcd] at h;exact absurd h.symm hf
    | true =>
    rw [hcd] at h;obtain ⟨⟨z0,hz0⟩,hall⟩:=He hf (show qL _ _=fin from h);have hlen:=(zq hf l (i+1) y.1 z0.1 z0.2 (hall z0 hz0)).1;have e:List.range' i (o :: l).length=List.range' i (y.1+1)++List.range' (i+1+y.1) (l.drop y.1).length:=by
     have e1:(o :: l).length=(y.1+1)+(l.drop y.1).length:=by rw [List.length_cons,List.length_drop];omega
     have e2:i+1+y.1=i+1 * (y.1+1):=by omega
     rw [e1,e2,List.range'_append]
    rw [e];refine hD i y hy F M0 w0 n hI hpl Q _ s st a w hc hcd fun z hz a' w' hc'=>ih _ (by rw [List.length_drop];omega) _ z.1 z.2 a' w' (fun j=>?_) hc' (zq hf l (i+1) y.1 z.1 z.2 (hall z hz)).2
    rw [List.getElem?_drop,hl']
    congr 1
    omega
def cf (P:Program) (H:Hole) (Ψ:H.σ->Nat->List Spec) (hints:List (Nat×List Nat)) (D:Nat->Option (Nat×(H.σ->St->Bool×Outs H))) (id:Nat) (ops:Array Oper) {ρ:Type} (k:X->H.σ->St->Out ρ) (s:H.σ) (st:St):Out ρ :=
 jU P H Ψ D ops (fun s st=>k .normal s st) ops.toList 0 0 s (frz P hints id (st.map aR))
theorem cr {Ψ:H.σ->Nat->List Spec} (hΨ:∀ s g sp,sp∈Ψ s g->cT P H s sp) (hints:List (Nat×List Nat)) {D:Nat->Option (Nat×(H.σ->St->Bool×Outs H))} {id:Nat} {ops:Array Oper} (hD:∀ i y,D i=some y->bw P H ops i y.1 y.2) :
 h_ P H (.region id ops false) (fun {ρ} k s st=>cf P H Ψ hints D id ops k s st):=by
 intro ρ fin hf hr F M0 w0 n hI hpl k Q hQ s st a w hc h;obtain ⟨N0,hpn,hcl,hback⟩:=hc.lift;have hc:=hback _ _ _ (hcl.frz (P:=P) (hints:=hints) (id:=id) fun j v hj=>(hpl j v (hpn j v hj)).elim);refine wpIn_region ?_;have:=Ry (F:=F) (M0:=M0) (w0:=w0) (n:=n) (ops:=ops) hΨ hI hpl hf (Q:=Q) hD (fun s st a w hc h=>hQ .normal s st a w hc h) _ ops.toList (Nat.le_refl _) 0 s _ a w (fun j=>by simp) hc h;rw [List.range_eq_range']
 simpa using this
def kF (B:Nat->Prop) (M:ai) (w:World):Base:={ mu:=fun b o=>M b o/\b<w.heap.size/\¬ B b,ms:=M,ws:=w,pin:=fun _=>none,dm:=fun D=>¬ (D<w.heap.size/\¬ B D) }
theorem u6 {M:ai} {w:World} {vs:Array Value} {t:Ty} {x:t.den} {n:Nat} {s:H.σ} (h:bN M w t vs.toList x) (hlt:∀ b o,M b o->b<w.heap.size) (hs:H.I s M w) (hh:∀ b,H.hb s w b->∀ o,M b o) :
 bH H (fun k=>k<w.heap.size/\¬ H.hb s w k) (kF (H.hb s w) M w) w s (eM n t x) { tmps:=vs++Array.replicate (n - vs.size) undef,defers:=[] } w:=by
 have hg:=u5 (n:=n) h hlt;refine ⟨Fr.refl _ _,M,hs,⟨trivial,hg.size,fun b hb=>hb.1,fun b o h=>h.2,fun b o h=>h.1,hg.lt,fun b o hF hm=>⟨hm,hF⟩,hg.slot,hg.one,fun i k b ho hF=>hg.new i k b ho hF.1,l_ _ _,fun j v hj=>(by cases hj),fun D hD=>hD⟩,
  fun b hb=>⟨fun hF=>hF.2 hb,hh b hb,fun i k ho=>hg.new i k b ho (H.lt s M w b hs hb)⟩⟩
theorem yb (hm:P.follows .mixedOrders=true) (hΦ:∀ g sp,sp∈Φ g->am P sp) {fnn:Nat} {fn:Func} {c:Code} (hfn:P.funcs[fnn]? = some fn) (hb:fn.body=some c) {T:List (List Nat×HdH H)} (hT:bG P H c T) {hints:List (Nat×List Nat)} {N:Nat}
 {arg res:Ty} {multi own:Bool} {s s':H.σ} {x:arg.den} {r:res.den} {M:ai} {w:World} {vs:Array Value} (hI:∀ w',Fr (fun k=>k<w.heap.size/\¬ H.hb s w k) w w'->Inv.I P w') (hs:H.I s M w) (hvs:bN M w arg vs.toList x) (hlt:∀ b o,M b o->b<w.heap.size) (hh:∀ b,H.hb s w b->∀ o,M b o)
 (h:cD P H Φ hints N T fn multi own arg res s x = .ret (s',r)) :
 Calls P fnn vs w fun e w'=>∃ v,e = .returned v/\Fr (fun k=>k<w.heap.size/\¬ H.hb s w k) w w'/\(∀ b,H.hb s' w' b->H.hb s w b\/w.heap.size<=b) /\
  ∃ M',H.I s' M' w'/\(∀ b o,M b o->H.hb s w b\/M' b o)/\(∀ b o,M' b o->M b o\/(w.heap.size<=b/\b<w'.heap.size))/\(∀ b,H.hb s' w' b->∀ o,M' b o)/\aI M' w' [] ⟨#[],[]⟩ v (bP multi own res r) /\
   ∀ b,bf (bP multi own res r)=true->ag v=some b->w.heap.size<=b\/H.hb s w b:=by
 have hst:=u6 (n:=fn.ntmps) hvs hlt hs hh;unfold cD av at h;rw [hb] at h;refine callsIn_wide.1 (callsIn_of_wp_marks (n:=0) hfn hb trivial (Co hΦ hm hints N (by simp) (by simp) c T hT _ _ _ _ hI (fun j v hj=>by cases hj) _ _ ?_ s _ _ _ hst h));intro e s2 st a w' hc hk;have key:(match dH P fn.results.toList multi own res st with | .ret r=>Out.ret (s2,r)|_=>.fail) = .ret (s',r)->LeavesInM Fence.wide 0 P fn a.tmps (fun e w'=>∃ v,e = .returned v/\Fr (fun k=>k<w.heap.size/\¬ H.hb s w k) w w'/\(∀ b,H.hb s' w' b->H.hb s w b\/w.heap.size<=b) /\
  ∃ M',H.I s' M' w'/\(∀ b o,M b o->H.hb s w b\/M' b o)/\(∀ b o,M' b o->M b o\/(w.heap.size<=b/\b<w'.heap.size))/\(∀ b,H.hb s' w' b->∀ o,M' b o)/\aI M' w' [] ⟨#[],[]⟩ v (bP multi own res r) /\
   ∀ b,bf (bP multi own res r)=true->ag v=some b->w.heap.size<=b\/H.hb s w b) a.defers .returning w':=by
  intro hk;split at hk;rotate_left
  . cases hk
  rename_i r2 hv;cases hk;obtain ⟨hfr,M',hG⟩:=hc;refine gR (M0:=jI (kF (H.hb s w) M w) (H.hb s' w') M' w') (F:=fun b=>(b<w.heap.size/\¬ H.hb s w b)\/H.hb s' w' b) (w0:=w') (st:=st) (by simp) (fun M2 w2 hg2 hf2=>?_) (fun D hD hF=>hF.elim hD.1 hD.2) a.defers M' w' hG.focus (Fr.refl _ _);obtain ⟨r',h1,v,h2,h3,h4⟩:=iS (fn:=fn) hg2 (by simp) hv;cases h1;have hG2:=hG.unfocus hf2 hg2;refine ⟨v,h2,v,rfl,hfr.trans (jQ hf2),fun b hb=>?_,M2,hG2.1,fun b o hM=>?_,fun b o hM=>?_,fun b hb=>(hG2.2.2 b hb).2.1,h3,fun b h5 h6=>?_⟩
  . rcases Nat.lt_or_ge b w.heap.size with h5|h5
    . by_cases h6:H.hb s w b
      . exact .inl h6
      . exact absurd ⟨h5,h6⟩ (hG2.2.2 b hb).1
    . exact .inr h5
  . by_cases h6:H.hb s w b
    . exact .inl h6
    . exact .inr (hG2.2.1.up b o ⟨hM,hlt b o hM,h6⟩)
  . rcases Nat.lt_or_ge b w.heap.size with h5|h5
    . by_cases h6:H.hb s w b
      . exact .inl (hh b h6 o)
      . exact .inl (hG2.2.1.down b o ⟨h5,h6⟩ hM).1
    . exact .inr ⟨h5,hG2.2.1.lt b o hM⟩
  . have h7:=h4 b h5 h6;rcases Nat.lt_or_ge b w.heap.size with h8|h8
    . by_cases h9:H.hb s w b
      . exact .inr h9
      . exact absurd (.inl ⟨h8,h9⟩) h7
    . exact .inl h8
 cases e with
 | normal=>exact key hk
 | ret=>exact key hk
 | exit i=>cases hk
theorem qC (hm:P.follows .mixedOrders=true) {l:List Spec} (hl:∀ sp∈l,am P sp) {fnn:Nat} {arg res:Ty} {multi own:Bool} {f:arg.den->Out res.den} {fn:Func} {c:Code}
 (hfn:P.funcs[fnn]? = some fn) (hb:fn.body=some c) {T:List (List Nat×HdH H)} (hT:bG P H c T) (hints:List (Nat×List Nat)) {s:H.σ} (hfree:H.Free) (hI:∀ M w w',Inv.I P w->H.I s M w->Fr (fun k=>k<w.heap.size/\¬ H.hb s w k) w w'->Inv.I P w')
 (hown:multi=false) (hown2:own=false)
 (h:∀ x r,f x = .ret r->∃ n,cD P H (ah l) hints n T fn multi own arg res s x = .ret (s,r)):fe P H s ⟨fnn,.call,arg,res,multi,own,f⟩:=by
 intro x M w vs r hIw hs hvs hlt hh hf;obtain ⟨n,hv⟩:=h x r hf;refine (yb hm (eK hl) hfn hb hT (fun w' hw'=>hI M w w' hIw hs hw') hs hvs hlt hh hv).mono ?_;rintro e w' ⟨v,rfl,h1,h3,M',h2,h4,h5,h6,h7,h8⟩;refine ⟨v,rfl,h1,fun w1 _ _ h9=>⟨hfree.1 s M' w' M w1 h2 fun b hb=>h9 b (hfree.2 s w' w b hb),fun b hb=>hfree.2 s w1 w b hb⟩,M',fun b o hM=>(h4 b o hM).elim (fun hB=>h6 b (hfree.2 s w w' b hB) o) id,h5,h7,fun b h9=>?_⟩;subst hown;subst hown2;cases h9
theorem Et (hm:P.follows .mixedOrders=true) {l:List Spec} (hl:∀ sp∈l,am P sp) {fnn:Nat} {arg res:Ty} {multi own:Bool} {f:arg.den->Out res.den} {fn:Func} {c:Code}
 (hfn:P.funcs[fnn]? = some fn) (hb:fn.body=some c) {T:List (List Nat×HdH H)} (hT:bG P H c T) (hints:List (Nat×List Nat)) {s:H.σ} (h0:∀ w b,¬ H.hb s w b) (hI0:∀ M w,H.I s M w) (hp:∀ x p,f x ≠ .pan p)
 (h:∀ x r,f x = .ret r->∃ n s',cD P H (ah l) hints n T fn multi own arg res s x = .ret (s',r)):am P ⟨fnn,.call,arg,res,multi,own,f⟩:=by
 intro x M w vs hIw hvs hlt;cases hx:f x with
 | fail=>simp only [hx]
 | pan p=>exact absurd hx (hp x p)
 | ret r =>
  simp only [hx];obtain ⟨n,s',hv⟩:=h x r hx;refine (yb hm (eK hl) hfn hb hT (fun w' hw'=>Inv.below _ _ hIw (Fr.toBelow ⟨hw'.os,hw'.tape,hw'.output,hw'.size,fun k hk=>hw'.block k ⟨hk,h0 w k⟩⟩)) (hI0 M w) hvs hlt (fun b hB=>absurd hB (h0 w b)) hv).mono ?_;rintro e w' ⟨v,rfl,h1,h3,M',h2,h4,h5,h6,h7,h8⟩;exact ⟨v,rfl,Fr.toBelow ⟨h1.os,h1.tape,h1.output,h1.size,fun k hk=>h1.block k ⟨hk,h0 w k⟩⟩,M',fun b o hM=>(h4 b o hM).resolve_left (h0 w b),h5,h7,fun b h9 h10=>(h8 b h9 h10).resolve_right (h0 w b)⟩
end
open Go.RowKit (Below)
def qu (ops:Array Oper) (m:Nat):Bool:=(ops.size==m) || ((ops.size==m+1) && (List.range m).all fun j=>Cr ops j m)
def nN (P:Program) (H:Hole) (Ψ:H.σ->Nat->List Spec) (hints:List (Nat×List Nat)) (m:Nat) (last:Option (H.σ->St->Bool×Outs H)) (id:Nat) (ops:Array Oper) {ρ:Type} (k:X->H.σ->St->Out ρ) (s:H.σ) (st:St):Out ρ :=
 hO P (Ψ s) ops (fun acc pp st'=>bif ij ops && ib ops 0 acc.reverse && qu ops m && (ops.size==(bif last.isSome then m+1 else m)) then (match pp with
  | none=>(match last with
   | none=>k .normal s st'
   | some g=>bif (g s st').1 then qL (fun z=>k .normal z.1 z.2) (g s st').2 else .fail)
  | some _=>.fail) else .fail) (ops.toList.take m) 0 [] 0 none (frz P hints id (st.map aR))
section
variable {P : Program} [Inv P] {H : Hole} {ρ : Type}
theorem Ly {s:H.σ} {Φ:Nat->List Spec} (hΦ:∀ g sp,sp∈Φ g->cT P H s sp) {F:Nat->Prop} {M0:Base} {w0:World} (hI:∀ w,Fr F w0 w->Inv.I P w) {n:Nat} {ops:Array Oper} {p:Value} {rs:List Rec} {m:Nat} {st:St} (hlen:rs.length=m) (hm:qu ops m=true)
 (hch:gG P Φ ops (Tr ops) p rs (ops.toList.take m) rs 0 st) (hap:vx (Tr ops) (rs.map Rec.pr)) (he:ij ops=true) {Q:Exit->Act->World->Prop} (hout:∀ r∈rs,r.out=false)
 (hend:∀ fuel (L:Array Bool) a w,L.size=ops.size->L.toList.countP (!·)<=fuel->(∀ j,j<m->L.getD j false=true)->(ops.size=m+1->L.getD m false=false)->bH H F M0 w0 s (bI (fun _=>true) (rs.map Rec.pr) 0 st) a w->wpAnyIn (aA none) n P .any ops Q fuel L a w) :
 ∀ (fuel:Nat) (L:Array Bool) (a:Act) (w:World),L.size=ops.size->rQ ops L->L.toList.countP (!·)<=fuel->(ops.size=m+1->L.getD m false=false)->bH H F M0 w0 s (bI (fun i=>L.getD i false) (rs.map Rec.pr) 0 st) a w->wpAnyIn (aA none) n P .any ops Q fuel L a w:=by
 have hlen':(rs.map Rec.pr).length=m:=by simpa using hlen
 have hsz:ops.size=m\/(ops.size=m+1/\∀ j,j<m->Tr ops j m):=by
  unfold qu at hm;rcases Bool.or_eq_true_iff.1 hm with h|h
  . exact .inl (by simpa using h)
  . rw [Bool.and_eq_true] at h;refine .inr ⟨by simpa using h.1,fun j hj=>?_⟩;have:=List.all_eq_true.1 h.2 j (List.mem_range.2 hj);exact t_ ops.toList [] (fun k o hk=>by simpa using hk) (fun j i h=>by simp at h) m j this
 have hle:m<=ops.size:=by rcases hsz with h|⟨h,_⟩<;>omega
 intro fuel
 induction fuel with
 | zero =>
  intro L a w hs hcl hct hlast hc;refine hend 0 L a w hs hct (fun j hj=>?_) hlast ?_
  . cases hL:L.getD j false with
    | true=>rfl
    | false =>
     exfalso;have hlt:j<L.size:=by omega
     have h3:L[j]=false:=by simpa [hlt] using hL
     have:0<L.toList.countP (!·):=List.countP_pos_iff.2 ⟨L[j],by simp,by rw [h3];rfl⟩;omega
  . have:bI (fun _=>true) (rs.map Rec.pr) 0 st=bI (fun i=>L.getD i false) (rs.map Rec.pr) 0 st:=by
     apply kr (by rw [cF,cF]);intro t ht;rw [cF] at ht;rw [dM _ _ _ _ ht,dM _ _ _ _ ht];refine jX _ _ _ fun j r hj _=>?_
     have hlt:j<(rs.map Rec.pr).length:=(List.getElem?_eq_some_iff.1 hj).1;have hltL:j<L.size:=by omega
     rw [Nat.zero_add];cases hL:L.getD j false with
     | true=>rfl
     | false =>
      exfalso;have h3:L[j]=false:=by simpa [hltL] using hL
      have:0<L.toList.countP (!·):=List.countP_pos_iff.2 ⟨L[j],by simp,by rw [h3];rfl⟩;omega
    rw [this];exact hc
 | succ fuel ih =>
  intro L a w hs hcl hct hlast hc
  by_cases hall:∀ j,j<m->L.getD j false=true
  . refine hend (fuel+1) L a w hs hct hall hlast ?_;have:bI (fun _=>true) (rs.map Rec.pr) 0 st=bI (fun i=>L.getD i false) (rs.map Rec.pr) 0 st:=by
     apply kr (by rw [cF,cF]);intro t ht;rw [cF] at ht;rw [dM _ _ _ _ ht,dM _ _ _ _ ht];refine jX _ _ _ fun j r hj _=>?_
     have hlt:j<(rs.map Rec.pr).length:=(List.getElem?_eq_some_iff.1 hj).1;rw [Nat.zero_add,hall j (by omega)]
    rw [this];exact hc
  obtain ⟨j0,hj0,hjf⟩:∃ j,j<m/\L.getD j false=false:=by
   apply Classical.byContradiction;intro hn;apply hall;intro j hj;cases hL:L.getD j false with
   | true=>rfl
   | false=>exact absurd ⟨j,hj,hL⟩ hn
  refine ⟨fun hr=>?_,fun i hi=>?_⟩
  . have:=uy he hs hr (j0+1) j0 (by omega) (by omega);rw [hjf] at this;cases this
  obtain ⟨h1,h2,h3⟩:=qY hi;have him:i<m:=by
   rcases hsz with h|⟨h,hw⟩
   . omega
   . rcases Nat.lt_or_ge i m with h'|h'
     . exact h'
     . have e:i=m:=by omega
       subst e;have:=uz hcl h3 (hw j0 hj0);rw [hjf] at this;cases this
  have hltL:i<L.size:=by omega
  have hfalse:L[i]=false:=by simpa [hltL] using h2
  have hnot:L.getD i false=false:=by simpa [hltL] using hfalse
  obtain ⟨o,ho⟩:∃ o,ops[i]? = some o:=⟨ops[i],by simp [h1]⟩
  obtain ⟨r0,hr0⟩:∃ r,rs[i]? = some r:=⟨rs[i],by simp [hlen,him]⟩
  have hr:(rs.map Rec.pr)[i]? = some r0.pr:=by simp [hr0]
  have hot:(ops.toList.take m)[i]? = some o:=by rw [List.getElem?_take,if_pos him];simpa using ho
  have hdec:=yh (ops.toList.take m) rs st 0 i o r0 hch hot hr0;rw [Nat.zero_add] at hdec;have hsame:∀ t,r0.g.testBit t=true->get (bI (fun i=>L.getD i false) (rs.map Rec.pr) 0 st) t=get (bI (fun j=>decide (j<i)) (rs.map Rec.pr) 0 st) t:=fun t ht=>by
   rcases Nat.lt_or_ge t st.length with hlt|hge
   . rw [dM _ _ _ _ hlt,dM _ _ _ _ hlt];refine jX _ _ _ fun j r' hj hb=>?_
     rw [Nat.zero_add];rcases Nat.lt_trichotomy j i with hji|rfl|hji
     . rcases hap j i r' r0.pr hji hj hr with hw|⟨hw,_⟩
       . rw [uz hcl h3 hw];simp [hji]
       . have:=mB hw hb;have ht':(r0.pr.1).testBit t=true:=ht;rw [Nat.testBit_or,ht'] at this;simp at this
     . rw [hnot];simp
     . have hd:decide (j<i)=false:=by simp;omega
       rw [hd];rcases hap i j r0.pr r' hji hr hj with hw|⟨_,hw⟩
       . cases hL:L.getD j false with
         | false=>rfl
         | true=>exact absurd (oW hcl hw hL) (by rw [hnot];simp)
       . have:=mB hw ht;rw [hb] at this;simp at this
   . rw [b7 (by rw [cF];exact hge),b7 (by rw [cF];exact hge)]
  have hout0:r0.out=false:=hout _ (List.mem_of_getElem? hr0);have hdec':fD P Φ ops o (bI (fun i=>L.getD i false) (rs.map Rec.pr) 0 st) r0.g r0.wr:=(hdec.1 hout0).same hsame;obtain ⟨r,hrr⟩:∃ r,r=r0.pr:=⟨_,rfl⟩
  rw [<- hrr] at hr;have hdec':fD P Φ ops o (bI (fun i=>L.getD i false) (rs.map Rec.pr) 0 st) r.1 r.2:=by rw [hrr];exact hdec'
  refine Ew hΦ hI hc ho hdec' fun a' w' hc'=>ih _ a' w' (by simp [hs]) ?_ ?_ ?_ ?_
  . intro x y hw hy;rw [kY hltL] at hy ⊢;rcases Bool.or_eq_true_iff.1 hy with hy|hy
    . rw [hcl x y hw hy];rfl
    . simp only [beq_iff_eq] at hy;subst hy;rw [h3 x hw];rfl
  . have h4:=yn L.toList i (by simp [hltL,hfalse]);have:(L.setIfInBounds i true).toList=L.toList.set i true:=by simp
    rw [this];omega
  . intro hms;rw [kY hltL,hlast hms];have:(m==i)=false:=by simp;omega
    rw [this];rfl
  . have:bI (fun i_1=>(L.setIfInBounds i true).getD i_1 false) (rs.map Rec.pr) 0 st=app r.2 (bI (fun i=>L.getD i false) (rs.map Rec.pr) 0 st):=by
     apply kr (by rw [cF,qv,cF]);intro t ht;rw [cF] at ht;rw [dM _ _ _ _ ht,tH _ _ _ (by rw [cF];exact ht),dM _ _ _ _ ht];have hfn:(fun j=>(L.setIfInBounds i true).getD j false)=fun j=>L.getD j false || j==i:=funext fun j=>kY hltL
     rw [hfn];cases hb:(cu r.2).testBit t with
     | true =>
      have:=zE (L:=fun j=>L.getD j false) hb (fI (fun i=>L.getD i false) t (rs.map Rec.pr) 0 (get st t)) (rs.map Rec.pr) i 0 (get st t) hr fun j r' hj hj' hb'=>by
       rw [Nat.zero_add];rcases hap i j r r' hj hr hj' with hw|⟨hw,_⟩
       . cases hL:L.getD j false with
         | false=>rfl
         | true=>exact absurd (oW hcl hw hL) (by rw [hnot];simp)
       . have:=mB hw hb;rw [Nat.testBit_or,hb'] at this;simp at this
      rw [Nat.zero_add] at this;exact this
     | false =>
      rw [tW hb];refine jX _ _ _ fun j r' hj hb'=>?_
      rw [Nat.zero_add]
      by_cases e:j=i
      . subst e;rw [hr] at hj;cases hj;rw [hb] at hb';cases hb'
      . have:(j==i)=false:=by simpa using e
        rw [this,Bool.or_false]
    rw [this];exact hc'
theorem DO {ops:Array Oper} {Q:Exit->Act->World->Prop} {n:Nat} {L:Array Bool} (h:∀ j,j<ops.size->L.getD j false=true) {a:Act} {w:World} (hQ:Q .normal a w):∀ fuel,wpAnyIn (aA none) n P .any ops Q fuel L a w:=by
 have hr:Region.ready .any ops L=[]:=by
  apply List.eq_nil_iff_forall_not_mem.2;intro i hi;obtain ⟨h1,h2,_⟩:=qY hi;have h3:=h i h1;rw [Array.getD_eq_getD_getElem?] at h2 h3;cases e:L[i]? <;> rw [e] at h2 h3<;>simp at h2 h3
  rw [h3] at h2;cases h2
 intro fuel;cases fuel with
 | zero=>exact ⟨hr,hQ⟩
 | succ fuel=>exact ⟨fun _=>hQ,fun i hi=>by rw [hr] at hi;cases hi⟩
theorem AH (hmx:P.follows .mixedOrders=true) {Ψ:H.σ->Nat->List Spec} (hΨ:∀ s g sp,sp∈Ψ s g->cT P H s sp) (hints:List (Nat×List Nat)) {m:Nat} {last:Option (H.σ->St->Bool×Outs H)} {id:Nat} {ops:Array Oper} (hD:∀ g,last=some g->dC P H ops m g) :
 h_ P H (.region id ops true) (fun {ρ} k s st=>nN P H Ψ hints m last id ops k s st):=by
 intro ρ fin hf hr F M0 w0 n hI hpl k Q hQ s st a w hc h;obtain ⟨N0,hpn,hcl,hback⟩:=hc.lift;have hc:=hback _ _ _ (hcl.frz (P:=P) (hints:=hints) (id:=id) fun j v hj=>(hpl j v (hpn j v hj)).elim);have h:nN P H Ψ hints m last id ops k s st=fin:=h;unfold nN at h;generalize hst1:frz P hints id (st.map aR)=st1 at h hc;obtain ⟨rs,pp',h1,h2,_,h4,h5,h6⟩:=Cm hf (ops.toList.take m) [] 0 none st1 (fun j hj=>by simp at hj) (fun _=>rfl) h;simp only [List.nil_append,List.reverse_reverse,List.length_nil] at h2 h6;cases hb:(ij ops && ib ops 0 (rs.map Rec.mask) && qu ops m && (ops.size==(bif last.isSome then m+1 else m))) with
 | false=>rw [hb] at h2;exact absurd h2.symm hf
 | true =>
 rw [hb] at h2;simp only [Bool.and_eq_true] at hb;obtain ⟨⟨⟨hb1,hb2⟩,hb3⟩,hb4⟩:=hb;have hle:m<=ops.size:=by
  unfold qu at hb3;rcases Bool.or_eq_true_iff.1 hb3 with h|h
  . have:ops.size=m:=by simpa using h
    omega
  . rw [Bool.and_eq_true] at h;have:ops.size=m+1:=by simpa using h.1
    omega
 have hsz:rs.length=m:=by rw [h1,List.length_take];simp;omega
 have hmask:rs.map Rec.mask=(rs.map Rec.pr).map fun r=>(r.1,cu r.2):=by rw [List.map_map];rfl
 cases hpp:pp' with
 | some p=>rw [hpp] at h2;exact absurd h2.symm hf
 | none =>
 have hall:=h4 hpp;rw [hpp] at h2;dsimp only [cond_true] at h2;refine wpIn_region_any hmx (Ly (st:=st1) (M0:=M0) (w0:=w0) (hΨ s) hI hsz hb3 (h6 .nilIface (.inl hpp)) (DS (by rw [<- hmask];exact hb2)) hb1 hall ?_ _ _ _ _ (by simp) ?_ ?_ ?_ ?_)
 . intro fuel L a w hs hct hj hlast hc';rw [B0,yL] at hc';cases hl:last with
   | none =>
    rw [hl] at h2 hb4;have hms:ops.size=m:=by simpa using hb4
    exact DO (fun j hjs=>hj j (by omega)) (hQ .normal s _ a w hc' h2) fuel
   | some g =>
    rw [hl] at h2 hb4;have hms:ops.size=m+1:=by simpa using hb4
    have hL:=hlast hms;dsimp only at h2;cases hcd:(g s (rs.foldl (fun st r=>app r.wr st) st1)).1 with
    | false=>rw [hcd] at h2;exact absurd h2.symm hf
    | true =>
    rw [hcd] at h2;obtain ⟨_,hallz⟩:=He hf (show qL _ _=fin from h2);have hltL:m<L.size:=by omega
    have hnr:Region.ready .any ops L≠[]:=fun hr=>by
     have:=uy hb1 hs hr (m+1) m (by omega) (by omega);rw [hL] at this;cases this
    cases fuel with
    | zero =>
     exfalso;have h3:L[m]=false:=by simpa [hltL] using hL
     have:0<L.toList.countP (!·):=List.countP_pos_iff.2 ⟨L[m],by simp,by rw [h3];rfl⟩;omega
    | succ fuel =>
     refine ⟨fun hr=>absurd hr hnr,fun i hi=>?_⟩;obtain ⟨g1,g2,g3⟩:=qY hi;have e:i=m:=by
      rcases Nat.lt_or_ge i m with h'|h'
      . have h3:=hj i h';rw [Array.getD_eq_getD_getElem?] at g2 h3;cases e:L[i]? <;> rw [e] at g2 h3<;>simp at g2 h3
        rw [h3] at g2;cases g2
      . omega
     subst e;refine hD g hl F M0 w0 n hI hpl Q _ s _ a w hc' hcd fun z hz a' w' hc''=>DO (fun j hjs=>?_) (hQ .normal z.1 z.2 a' w' hc'' (hallz z hz)) fuel
     rw [kY hltL];rcases Nat.lt_or_ge j i with h'|h'
     . rw [hj j h'];rfl
     . have:j=i:=by omega
       subst this;simp
 . intro i j _ hj;simp only [Array.getD_eq_getD_getElem?,Array.getElem?_replicate] at hj;split at hj<;>simp at hj
 . exact Nat.le_trans List.countP_le_length (by simp)
 . intro _;simp only [Array.getD_eq_getD_getElem?,Array.getElem?_replicate];split<;>rfl
 . have:bI (fun i=>(Array.replicate ops.size false).getD i false) (rs.map Rec.pr) 0 st1=st1:=by
    apply kr (cF ..);intro t ht;rw [cF] at ht;rw [dM _ _ _ _ ht];refine qt _ _ _ fun j _ _ _=>?_
    simp only [Array.getD_eq_getD_getElem?,Array.getElem?_replicate];split<;>rfl
   rw [this];obtain ⟨N1,_,hcl1,hback1⟩:=hc.lift;obtain ⟨hb,M,hg⟩:=hcl1;exact hback1 _ _ _ ⟨hb.drew,M,hg.drew⟩
end
open Go.RowKit (Below)
def kD (B:Nat->Prop) (W W1 W2:World):Prop:=Fr (fun k=>k<W.heap.size/\¬ B k) W1 W2/\∀ (k:Nat) (ob:Obj),¬ B k->W1.heap[k]? = some ob->ob.isCells=true->W2.heap[k]? = some ob
def Do (P:Program) [Inv P] (B:Nat->Prop) (v:Value) (e:Ty) (ys:List e.den) (M:ai) (w:World):Prop :=
 ∃ g fs pc,v = .func (.func g) fs pc/\fG P g=true /\
  ∀ (n l:Nat) (R:Nat->Prop) (J:Nat->ai->World->Prop) (Jx:World->Prop) (W:World) (N0:ai),
   aL M w N0 W->w.heap.size<=W.heap.size->(∀ b,B b->W.heap[b]? = w.heap[b]?)->Inv.I P W->(∀ b o,N0 b o->b<W.heap.size)->(∀ b,R b->b<W.heap.size/\∀ ob,W.heap[b]? = some ob->ob.isCells=false) ->
   (∀ i M1 W1,J i M1 W1->Inv.I P W1)->(∀ i M1 W1 W2,J i M1 W1->kD B W W1 W2->J i M1 W2)->(∀ W1 W2,Jx W1->kD B W W1 W2->Jx W2) ->
   (∀ i M1 W1 u y,J i M1 W1->ys[i]? = some y->aw M1 W1 e u y->∃ fn tmps assign body,(Instr.yield l #[u]).run P W1 = .ok (.round l fn tmps assign body) W1 /\
    RoundIn Fence.wide n P l fn tmps assign body W1 fun r W2 =>
     (r = .returned (.bool true)/\∃ M2,J (i+1) M2 W2/\RoundKeeps R M1 W1 M2 W2/\∀ b,B b->W2.heap[b]? = W1.heap[b]?)\/(r = .returned (.bool false)/\Jx W2)) ->
   J 0 N0 W ->
   Calls P g (fs ++ #[.func (.yield l) #[] #[]]++pc) W fun r W'=>(∃ u,r = .returned u)/\((∃ M1,J ys.length M1 W')\/Jx W')
section
variable {P : Program} [Inv P] {Φ : Nat → List Spec} {M0 : Base} {F : Nat → Prop} {w0 : World} {M : ai} {st st' : St} {a : Act} {w : World} {o : Oper} {ρ : Type}
theorem Good.cellsB {B:Nat->Prop} (h:Good M0 F M st a w) (hs:iY st) {w':World} (hBM:∀ b,B b->∀ o,M b o) (hBo:∀ i k b,ap st a w i k b->¬ B b) (hsz:w.heap.size<=w'.heap.size) (hk:∀ (k:Nat) (ob:Obj),¬ B k->w.heap[k]? = some ob->ob.isCells=true->w'.heap[k]? = some ob)
 (hd:dv M0.dm w' a.defers):Good M0 F M st a w':=by
 have hst:aL M w M w':=fun b o v e hn=>by
  have hb:¬ B b:=fun hb=>hn (hBM b hb o)
  obtain ⟨ob,e1,e2⟩:=cells_of_cell e;exact ⟨(World.cell?_of_block (a:=⟨b,o,none⟩) (by rw [hk b ob hb e1 e2,e1])).trans e,hn⟩
 have ho:∀ i k b,ap st a w i k b->w'.heap[b]? = w.heap[b]? := fun i k b ho=>by
  obtain ⟨ob,e1,e2⟩:=nr h hs ho;rw [hk b ob (hBo i k b ho) e1 e2,e1]
 have hk':∀ i b,ap st a w i none b->w'.heap[b]? = w.heap[b]? := fun i b h=>ho i none b h
 exact ⟨hd,h.size,fun b hb=>Nat.lt_of_lt_of_le (h.room b hb) hsz,h.base,h.up,fun b o hm=>Nat.lt_of_lt_of_le (h.lt b o hm) hsz,h.down,
  fun i=>aI.keep hst (u_ hk') rfl rfl (h.slot i) fun k b hb=>⟨ho i k b hb,fun _ h=>h⟩,
  fun i k j l b h1 h2=>h.one i k j l b (cM hk' h1) (cM hk' h2),fun i k b h1=>h.new i k b (cM hk' h1),h.keep.trans hst,h.pin,h.dm⟩
theorem UM (hints:List (Nat×List Nat)) (N:Nat) {fin:Out ρ} {assign body:Code} (iha:oJ P Φ hints N fin assign) (ihb:oJ P Φ hints N fin body)
 {n:Nat} {F F' B:Nat->Prop} (hF':∀ b,F b->F' b) (hBF':∀ b,B b->F' b) (hBF:∀ b,B b->¬ F b) (hBmu:∀ b,B b->∀ o,M0.mu b o) (hBc:∀ b,B b->∃ ob:Obj,w.heap[b]? = some ob/\ob.isCells=true) (hI:∀ w,Fr F w0 w->Inv.I P w) (hpn:∀ j,M0.pin j=none) {k:X->St->Out ρ} {Q:Exit->Act->World->Prop} (hk:∀ x st a w,Fr F w0 w->(∃ M,Good M0 F' M st a w)->k x st=fin->Q x.exit' a w)
 (hfr:Fr F w0 w) (hg:Good M0 F' M st a w) {f:Operand} {ps:Array Tmp} {p:Nat} (hps:ps.toList=[p]) {v:Value} (hev:a.eval f=v) {e:Ty} {ys:List e.den} (hitB:Do P B v e ys M w) (hp:au (get st p)=false)
 (h:iR (fun k' s=>bz P Φ hints N assign (some (dW 0 (st.map dz))) (fun e s=>match e with | .normal=>bz P Φ hints N body (some (dW 0 (st.map dz))) k' s|_=>.fail) s) p e (st.map dz) k ys (st.map dz)=fin)
 (hf:fin ≠ .fail):(Code.rangeFunc f ps assign body).wpIn (aA none) n P Q a w:=by
 obtain ⟨g',fs,pc,hv,hent,hit⟩:=hitB;subst hev;have hps':ps = #[p]:=by rw [<- Array.toArray_toList (xs:=ps),hps]
 subst hps';generalize hst1:st.map dz=st1 at h;generalize hbs:dW 0 st1=bs at h;have hq:oM st1:=hst1 ▸ HG st;have hgr:∀ j,get st1 j=dz (get st j):=fun j=>by
  rw [<- hst1];unfold get;rw [List.getD_eq_getElem?_getD,List.getD_eq_getElem?_getD,List.getElem?_map];cases st[j]? <;> rfl
 have hp1:au (get st1 p)=false:=by
  rw [hgr];cases hs:get st p<;>rw [hs] at hp<;>first|rfl|cases hp
 have hg1:Good M0 F' M st1 a w:=hg.mask (by rw [<- hst1];simp) (fun j=>by
  rw [hgr];cases get st j<;>first|exact .inr (.inr rfl)|exact .inr (.inl rfl)) fun j v hj=>by rw [hpn j] at hj;cases hj
 show (Code.rangeFunc f #[p] assign body).wpIn Fence.wide n P Q a w;refine wpIn_rangeFunc ?_;intro fn hfn;obtain ⟨rec,hrec⟩:∃ rec:LoopState->Option Code->Loop,rec=fun st pe=>{ state:=st,pending:=pe,fn,tmps:=a.tmps,params := #[p],assign,body,defers:=w.heap.size }:=⟨_,rfl⟩
 obtain ⟨W1,hW1⟩:∃ W1,(w.alloc (.deferred (some []))).alloc (.loop (rec .ready none))=W1:=⟨_,rfl⟩
 obtain ⟨a0,ha0⟩:∃ a0:Act,a0={ tmps:=a.tmps,defers:=[] }:=⟨_,rfl⟩
 have ht0:a0.tmps=a.tmps:=by rw [ha0]
 have hsz1:W1.heap.size=w.heap.size+2:=by rw [<- hW1];simp
 have hL1:W1.heap[w.heap.size+1]? = some (.loop (rec .ready none)):=by
  rw [<- hW1];have:=World.alloc_heap_new (w.alloc (.deferred (some []))) (.loop (rec .ready none));rwa [World.size_alloc] at this
 have hK1:W1.heap[w.heap.size]? = some (.deferred (some [])):=by
  rw [<- hW1];exact (Below.heap_alloc _ _ _ (by simp)).trans (World.alloc_heap_new w _)
 have hb1:Below w.heap.size w W1:=by rw [<- hW1];exact ((Below.refl _ w).alloc (Nat.le_refl _) _).alloc (by simp) _
 have hmk1:dv M0.dm W1 ({ target:=.collected w.heap.size,args := #[] } :: a.defers):=by
  refine ⟨⟨_,rfl,hK1,hg.dm _ fun hF=>absurd (hg.room _ hF) (Nat.lt_irrefl _)⟩,fun d hd e=>?_,hg.defers.keep (bF.below hb1)⟩;have:∀ ds:List Deferred,dv M0.dm w ds->d∈ds->∃ D,d={ target:=.collected D,args := #[] }/\D<w.heap.size:=by
   intro ds
   induction ds with
   | nil=>intro _ h;simp at h
   | cons d' ds ih =>
    rintro ⟨⟨D,e1,e2,_⟩,_,h3⟩ h;rcases List.mem_cons.1 h with rfl|h
    . exact ⟨D,e1,(Array.getElem?_eq_some_iff.1 e2).1⟩
    . exact ih h3 h
  obtain ⟨D,e1,e2⟩:=this _ hg.defers hd;rw [e1] at e;simp only [Deferred.mk.injEq,Target.collected.injEq,and_true] at e;omega
 have hga:Good M0 F' M st1 a0 W1:=(hg1.below hb1).act ht0 (by rw [ha0];trivial);obtain ⟨J,hJ⟩:∃ J:Nat->ai->World->Prop,J=fun i M1 W=>Fr F w0 W/\W.heap[w.heap.size+1]? = some (.loop (rec .ready none))/\bF W1 W/\W1.heap.size<=W.heap.size /\
  ∃ s,Good M0 F' M1 s a0 W/\s.length=st1.length/\(∀ j,au (get st1 j)=false->get s j=get st1 j)/\(∀ j,au (get st1 j)=true->au (get s j)=true) /\
   iR (fun k' s=>bz P Φ hints N assign (some bs) (fun e s=>match e with | .normal=>bz P Φ hints N body (some bs) k' s|_=>.fail) s) p e st1 k (ys.drop i) s=fin:=⟨_,rfl⟩
 obtain ⟨Jx,hJx⟩:∃ Jx:World->Prop,Jx=fun W=>∃ (x:X) (c:Code) (M1:ai) (s:St),tV x=some c/\Fr F w0 W/\W.heap[w.heap.size+1]? = some (.loop (rec .done (some c)))/\bF W1 W/\W1.heap.size<=W.heap.size /\
  Good M0 F' M1 s a0 W/\iY s/\k x s=fin:=⟨_,rfl⟩
 have hroom:∀ b,F b->b<w.heap.size:=fun b hF=>hg.room b (hF' b hF)
 have hFl:∀ {W:World},¬ F (w.heap.size+1):=fun {_} hF=>by have:=hroom _ hF;omega
 refine ⟨w.heap.size+1,[{ target:=.collected w.heap.size,args := #[] }],W1,{ target:=.fn (.func g') pc,args:=fs ++ #[.func (.yield (w.heap.size+1)) #[] #[]] },W1,g',fs ++ #[.func (.yield (w.heap.size+1)) #[] #[]]++pc,W1,?_,?_,fun _ _=>trivial,?_,fun h=>by simp [Fence.wide] at h,?_⟩
 . rw [<- hW1,hrec];exact run_enterLoop_outer _ _ _ _ _
 . simp only [resolve,hv];simp [Deferred.ofValue,Act.eval]
 . simp [invoke,dK hent]
 . have hBW:∀ b,B b->W1.heap[b]? = w.heap[b]? := fun b hb=>hb1.block b (hg.room b (hBF' b hb))
   have hBl:∀ b,B b->b<w.heap.size:=fun b hb=>hg.room b (hBF' b hb)
   have hBd:∀ D c,W1.heap[D]? = some (.deferred c)->¬ B D:=fun D c e hB=>by
    obtain ⟨ob,e1,e2⟩:=hBc D hB;rw [hBW D hB,e1] at e;cases e;cases e2
   have step:∀ {W2 W3:World},kD B W1 W2 W3->W1.heap.size<=W2.heap.size->bF W1 W2->bF W1 W3:=fun hs hsz hk D c e =>
    (hs.1.block D ⟨(Array.getElem?_eq_some_iff.1 e).1,hBd D c e⟩).trans (hk D c e)
   have frB:∀ {W2 W3:World},kD B W1 W2 W3->Fr F W2 W3:=fun hs=>⟨hs.1.os,hs.1.tape,hs.1.output,hs.1.size,fun b hF=>hs.1.block b ⟨Nat.lt_of_lt_of_le (hroom b hF) hb1.size,fun hB=>hBF b hB hF⟩⟩
   have hBn:¬ B (w.heap.size+1):=fun hB=>by have:=hBl _ hB;omega
   refine callsIn_wide.2 ((hit (n - 1 - 1) (w.heap.size+1) (fun b=>b=w.heap.size+1) J Jx W1 M (B1 hb1) hb1.size hBW (hI W1 (hfr.trans (Fr.below hb1 hroom))) (fun b o hm=>Nat.lt_of_lt_of_le (hg.lt b o hm) hb1.size)
    (fun b e=>by subst e;exact ⟨by omega,fun ob e=>by rw [hL1] at e;cases e;rfl⟩) (fun i M1 W h=>hI _ (by rw [hJ] at h;exact h.1)) ?_ ?_ ?_ ?_).mono ?_)
   . -- the iterator's own steps
     intro i M1 W2 W3 hj hs;rw [hJ] at hj ⊢;obtain ⟨j1,j2,j3,j4,s,j5,j6,j7,j8,j9⟩:=hj;refine ⟨j1.trans (frB hs),(hs.1.block _ ⟨by omega,hBn⟩).trans j2,step hs j4 j3,Nat.le_trans j4 hs.1.size,s,?_,j6,j7,j8,j9⟩;exact j5.cellsB (ju hq j7 j8) (fun b hB o=>j5.up b o (hBmu b hB o)) (fun i k b ho hB=>j5.new i k b ho (hBF' b hB)) hs.1.size hs.2 (by rw [ha0];trivial)
   . intro W2 W3 hj hs;rw [hJx] at hj ⊢;obtain ⟨x,c,M1,s,j0,j1,j2,j3,j4,j5,j6,j7⟩:=hj;exact ⟨x,c,M1,s,j0,j1.trans (frB hs),(hs.1.block _ ⟨by omega,hBn⟩).trans j2,step hs j4 j3,Nat.le_trans j4 hs.1.size,
      j5.cellsB j6 (fun b hB o=>j5.up b o (hBmu b hB o)) (fun i k b ho hB=>j5.new i k b ho (hBF' b hB)) hs.1.size hs.2 (by rw [ha0];trivial),j6,j7⟩
   . -- one round
     intro i M1 W u yy hj hyi hu;rw [hJ] at hj;obtain ⟨j1,j2,j3,j4,s,j5,j6,j7,j8,j9⟩:=hj;have hyld:=run_yield (P:=P) (args := #[u]) j2 (by rw [hrec];rfl);rw [hrec] at hyld;refine ⟨fn,_,assign,body,hyld,roundIn_of_wpIn hfn ?_⟩;have hdrop:ys.drop i=yy :: ys.drop (i+1):=by
      obtain ⟨hlt,e⟩:=List.getElem?_eq_some_iff.1 hyi;rw [List.drop_eq_getElem_cons hlt,e]
     rw [hdrop] at j9;unfold iR at j9;have hns:=ju hq j7 j8;obtain ⟨G,hG⟩:∃ G:Nat->Prop,G=fun b=>b<W.heap.size/\∀ i k,¬ ap s a0 W i k b:=⟨_,rfl⟩
     obtain ⟨N0,hN0⟩:∃ N0:Base,N0={ mu:=fun b o=>M1 b o/\G b,ms:=M1,ws:=W,pin:=fun j=>if au (get st1 j)=true then some (tm a0 j) else none,dm:=fun _=>True }:=⟨_,rfl⟩
     have hb0:Good N0 G M1 s a0 W:=j5.rebase (fun b h=>by rw [hG] at h;exact h.1) (fun b o h=>by rw [hN0] at h;exact h.2) (fun b o h=>by rw [hN0] at h;exact h.1) (fun b o h1 h2=>by rw [hN0];exact ⟨h2,h1⟩)
      (fun i k b ho h=>by rw [hG] at h;exact h.2 i k ho) (by rw [hN0];exact l_ _ _) (fun j v hj=>by
       rw [hN0] at hj;dsimp only at hj;split at hj
       . rename_i hb;cases hj;exact ⟨rfl,j8 j hb⟩
       . cases hj) (fun _=>by rw [hN0];trivial)
     have hpb:au (get s p)=false:=by rw [j7 p hp1];exact hp1
     have hb1':=hb0.fin (dst:=some p) (s:=dS e yy) (v:=u) (fun d hd=>by cases hd;exact hpb) (Ht _ _) (o_ hu);have hact:a0.put (some p) u={ tmps:=(#[p].zip #[u]).foldl (fun t (q,v)=>t.setIfInBounds q v) a.tmps,defers:=[] }:=by rw [ha0];simp [Act.put]
     rw [hact] at hb1';have hFG':∀ b,F' b->G b:=fun b hF=>by rw [hG];exact ⟨Nat.lt_of_lt_of_le (hg.room b hF) (Nat.le_trans hb1.size j4),fun i k ho=>j5.new i k b ho hF⟩
     have hFG:∀ b,F b->G b:=fun b hF=>hFG' b (hF' b hF)
     have hFrF:∀ {A B:World},Fr G A B->Fr F A B:=fun h=>⟨h.os,h.tape,h.output,h.size,fun b hF=>h.block b (hFG b hF)⟩
     have hplN:∀ j v,N0.pin j=some v->∃ l,some bs=some l/\j∈l:=fun j v hj=>by
      rw [hN0] at hj;dsimp only at hj;split at hj
      . rename_i hb;refine ⟨bs,rfl,?_⟩;rw [<- hbs];have:=zN st1 0 j hb
        rwa [Nat.zero_add] at this
      . cases hj
     have hGl:G (w.heap.size+1):=by
      rw [hG];refine ⟨(Array.getElem?_eq_some_iff.1 j2).1,fun i k ho=>?_⟩;obtain ⟨ob,e1,e2⟩:=nr j5 hns ho;rw [j2] at e1;cases e1;cases e2
     refine iha G N0 W (some bs) (some (w.heap.size+1)) _ (fun h=>by cases h) (fun w' hw'=>hI w' (j1.trans (hFrF hw'))) hplN _ _ (fun h=>by cases h) ?_ _ _ _ ⟨Fr.refl _ _,M1,hb1'⟩ j9;rintro xa sa aa wa ⟨hfa,Ma,hga'⟩ hka;cases xa with
     | exit i=>exact absurd hka.symm hf
     | ret=>exact absurd hka.symm hf
     | normal =>
     have hla:wa.heap[w.heap.size+1]? = some (.loop (rec .ready none)):=(hfa.block _ hGl).trans j2;have hlat:w.heap.size+1<wa.heap.size:=(Array.getElem?_eq_some_iff.1 hla).1;refine ⟨_,run_beginRound hla (by rw [hrec]),?_⟩;generalize hwb:wa.putObj (w.heap.size+1) (.loop { rec .ready none with state:=.busy })=wb;have hlb:wb.heap[w.heap.size+1]? = some (.loop { rec .ready none with state:=.busy }):=by rw [<- hwb];exact World.putObj_heap_same hlat
     have hob:∀ b,b≠w.heap.size+1->wb.heap[b]? = wa.heap[b]? := fun b hb=>by rw [<- hwb];exact World.putObj_heap_other hb
     have hszb:wb.heap.size=wa.heap.size:=by rw [<- hwb];simp
     have hcb:∀ (k:Nat) (ob:Obj),wa.heap[k]? = some ob->ob.isCells=true->wb.heap[k]? = some ob:=fun k ob e1 e2=>by
      rw [hob k fun e=>by rw [e,hla] at e1;cases e1;cases e2];exact e1
     have hstb:aL Ma wa Ma wb:=oe hcb;have hownG:∀ i k b,ap sa aa wa i k b->¬ G b:=fun i k b ho=>hga'.new i k b ho
     have hownab:∀ i k b,ap sa aa wb i k b->ap sa aa wa i k b:=fun i k b ho=>by
      refine cM (fun i b ho=>hob b fun e=>?_) ho;exact hga'.new i none b ho (e ▸ hGl)
     obtain ⟨G2,hG2⟩:∃ G2:Nat->Prop,G2=fun b=>b<wb.heap.size/\∀ i k,¬ ap sa aa wb i k b:=⟨_,rfl⟩
     obtain ⟨N2,hN2⟩:∃ N2:Base,N2={ mu:=fun b o=>Ma b o/\G2 b,ms:=M1,ws:=W,pin:=N0.pin,dm:=fun _=>True }:=⟨_,rfl⟩
     have hGG:∀ b,G b->G2 b:=fun b hb=>by
      rw [hG2];refine ⟨?_,fun i k ho=>hownG i k b (hownab i k b ho) hb⟩;have h1:b<W.heap.size:=by rw [hG] at hb;exact hb.1
      have:=hfa.size;omega
     have hgb:Good N0 G Ma sa aa wb:=by
      have hk':∀ i k b,ap sa aa wa i k b->wb.heap[b]? = wa.heap[b]? := fun i k b ho=>hob b fun e=>hga'.new i k b ho (e ▸ hGl)
      exact hga'.world hstb (by omega) hga'.up (fun b o hm=>by rw [hszb];exact hga'.lt b o hm) hga'.down (fun D c e=>(hob D fun e'=>by rw [e',hla] at e;cases e).trans e) fun i k b ho=>⟨hk' i k b ho,fun _ h=>h⟩
     have hgb2:Good N2 G2 Ma sa aa wb:=hgb.rebase (fun b h=>by rw [hG2] at h;exact h.1) (fun b o h=>by rw [hN2] at h;exact h.2) (fun b o h=>by rw [hN2] at h;exact h.1) (fun b o h1 h2=>by rw [hN2];exact ⟨h2,h1⟩)
      (fun i k b ho h=>by rw [hG2] at h;exact h.2 i k ho) (by have:=hgb.keep;rw [hN0] at this;rw [hN2];exact this) (fun j v hj=>hgb.pin j v (by rw [hN2] at hj;exact hj)) (fun _=>by rw [hN2];trivial)
     have hFrb:Fr F w0 wb:=(j1.trans (hFrF hfa)).but (g:=w.heap.size+1) (hFl (W:=w)) (by rw [<- hwb];rfl) (by rw [<- hwb];rfl) (by rw [<- hwb];rfl) (by omega) hob;have hF2:∀ {A B:World},Fr G2 A B->Fr F A B:=fun h=>⟨h.os,h.tape,h.output,h.size,fun b hF=>h.block b (hGG b (hFG b hF))⟩
     refine ihb G2 N2 wb (some bs) (some (w.heap.size+1)) _ (fun h=>by cases h) (fun w' hw'=>hI w' (hFrb.trans (hF2 hw'))) (fun j v hj=>hplN j v (by rw [hN2] at hj;exact hj)) _ _ (fun h=>by cases h) ?_ _ _ _ ⟨Fr.refl _ _,Ma,hgb2⟩ hka;rintro xb sb ab wc ⟨hfb,Mb,hgc⟩ hkb;have hlc:wc.heap[w.heap.size+1]? = some (.loop { rec .ready none with state:=.busy }):=(hfb.block _ (hGG _ hGl)).trans hlb;have hlct:w.heap.size+1<wc.heap.size:=(Array.getElem?_eq_some_iff.1 hlc).1;have hjump:∀ jump:Option Code,(Instr.endRound (w.heap.size+1) jump).run P wc = .ok (.bool jump.isNone) (wc.putObj (w.heap.size+1) (.loop (rec (if jump.isNone then .ready else .done) jump))):=fun jump=>by
      have:=run_endRound (P:=P) jump hlc;rw [hrec] at this ⊢;exact this
     have common:∀ (r:Loop),Good M0 F' Mb (cJ st1 sb) a0 (wc.putObj (w.heap.size+1) (.loop r))/\Fr F w0 (wc.putObj (w.heap.size+1) (.loop r))/\bF W1 (wc.putObj (w.heap.size+1) (.loop r))/\W1.heap.size<=(wc.putObj (w.heap.size+1) (.loop r)).heap.size /\
      RoundKeeps (fun b=>b=w.heap.size+1) M1 W Mb (wc.putObj (w.heap.size+1) (.loop r))/\∀ b,B b->(wc.putObj (w.heap.size+1) (.loop r)).heap[b]? = W.heap[b]? := by
      intro r;generalize hwd:wc.putObj (w.heap.size+1) (.loop r)=wd;have hod:∀ b,b≠w.heap.size+1->wd.heap[b]? = wc.heap[b]? := fun b hb=>by rw [<- hwd];exact World.putObj_heap_other hb
      have hszd:wd.heap.size=wc.heap.size:=by rw [<- hwd];simp
      have hcd:∀ (k:Nat) (ob:Obj),wc.heap[k]? = some ob->ob.isCells=true->wd.heap[k]? = some ob:=fun k ob e1 e2=>by
       rw [hod k fun e=>by rw [e,hlc] at e1;cases e1;cases e2];exact e1
      have hstd:aL Mb wc Mb wd:=oe hcd;have hgd:Good N2 G2 Mb sb ab wd:=by
       have hk':∀ i k b,ap sb ab wc i k b->wd.heap[b]? = wc.heap[b]? := fun i k b ho=>hod b fun e=>hgc.new i k b ho (e ▸ hGG _ hGl)
       exact hgc.world hstd (by omega) hgc.up (fun b o hm=>by rw [hszd];exact hgc.lt b o hm) hgc.down (fun D c e=>(hod D fun e'=>by rw [e',hlc] at e;cases e).trans e) fun i k b ho=>⟨hk' i k b ho,fun _ h=>h⟩
      have hkeep:aL M1 W Mb wd:=by have:=hgd.keep;rw [hN2] at this;exact this
      have hmd:∀ b o,G b->Mb b o->M1 b o:=fun b o hb hm=>by
       have h1:=hgd.down b o (hGG b hb) hm;rw [hN2] at h1;have h2:=hgb.down b o hb h1.1;rw [hN0] at h2;exact h2.1
      have hmu:∀ b o,G b->M1 b o->Mb b o:=fun b o hb hm=>by
       have h1:N0.mu b o:=by rw [hN0];exact ⟨hm,hb⟩
       have h2:N2.mu b o:=by rw [hN2];exact ⟨hgb.up b o h1,hGG b hb⟩
       exact hgd.up b o h2
      have hsize:W.heap.size<=wd.heap.size:=by have:=hfa.size;have:=hfb.size;omega
      have hsame:∀ b,G b->b≠w.heap.size+1->wd.heap[b]? = W.heap[b]? := fun b hb hne=>by
       rw [hod b hne,hfb.block b (hGG b hb),hob b hne,hfa.block b hb]
      refine ⟨?_,?_,?_,by omega,?_,fun b hB=>hsame b (hFG' b (hBF' b hB)) fun e=>hBn (e ▸ hB)⟩
      . refine Good.backed hq j5 j6 j7 hgd hkeep (fun j hj=>?_) (by rw [ha0];trivial) (fun b hF=>?_) (fun b o hm=>?_) (fun b o hF hm=>?_) (fun i k b ho hF=>?_) hpn (j5.keep)
        . have:=(hgd.pin j (tm a0 j) (by rw [hN2,hN0];simp [hj])).1;exact this
        . have:=hg.room b hF;omega
        . exact hmu b o (hFG' b (j5.base b o hm)) (j5.up b o hm)
        . exact j5.down b o hF (hmd b o (hFG' b hF) hm)
        . exact hgd.new i k b ho (hGG b (hFG' b hF))
      . refine (hFrb.trans (hF2 hfb)).but (g:=w.heap.size+1) (hFl (W:=w)) (by rw [<- hwd];rfl) (by rw [<- hwd];rfl) (by rw [<- hwd];rfl) (by omega) hod
      . intro D c e;have e':=j3 D c e;have hD:G D:=by
         rw [hG];refine ⟨(Array.getElem?_eq_some_iff.1 e').1,fun i k ho=>?_⟩;obtain ⟨ob,e1,e2⟩:=nr j5 hns ho;rw [e'] at e1;cases e1;cases e2
        rw [hsame D hD fun h=>by rw [h,j2] at e';cases e'];exact e'
      . refine ⟨hsize,fun k o hm=>?_,hgd.lt,hkeep,fun k hlt hno hne=>?_⟩
        . rcases Nat.lt_or_ge k W.heap.size with hlt|hge
          . left
            by_cases hk:∃ i l,ap s a0 W i l k
            . obtain ⟨i,l,ho⟩:=hk;exact un j5 hns ho
            . exact ⟨o,hmd k o (by rw [hG];exact ⟨hlt,fun i l ho=>hk ⟨i,l,ho⟩⟩) hm⟩
          . exact .inr hge
        . refine hsame k ?_ hne;rw [hG];exact ⟨hlt,fun i l ho=>by obtain ⟨o,ho'⟩:=un j5 hns ho;exact hno o ho'⟩
     have hback:∀ j,get (cJ st1 sb) j=mC (get st1 j) (get sb j):=fun j=>by
      rcases Nat.lt_or_ge j st1.length with hj|hj
      . have:=tI sb st1 0 j hj
        rwa [Nat.zero_add] at this
      . rw [b7 (by show (i_ 0 st1 sb).length<=j;rw [m7];exact hj),b7 (st:=st1) hj];rfl
     have hsh2:∀ j,au (get st1 j)=false->get (cJ st1 sb) j=get st1 j:=fun j hj=>by
      rw [hback];cases hs:get st1 j<;>rw [hs] at hj<;>first|rfl|cases hj
     have hsb2:∀ j,au (get st1 j)=true->au (get (cJ st1 sb) j)=true:=fun j hj=>by
      rw [hback];have h2:=(hgc.pin j (tm a0 j) (by rw [hN2,hN0];simp [hj])).2;cases hs:get st1 j<;>rw [hs] at hj<;>simp [au] at hj
      cases hs':get sb j<;>rw [hs'] at h2<;>simp [au] at h2
      rfl
     have out:∀ (xx:X) (c:Code),tV xx=some c->k xx (cJ st1 sb)=fin->∃ v w',(Instr.endRound (w.heap.size+1) (some c)).run P wc = .ok v w' /\
      ((Ending.returned v = .returned (.bool true)/\∃ M2,J (i+1) M2 w'/\RoundKeeps (fun b=>b=w.heap.size+1) M1 W M2 w'/\∀ b,B b->w'.heap[b]? = W.heap[b]?)\/(Ending.returned v = .returned (.bool false)/\Jx w')):=by
      intro xx c hxc hkx;obtain ⟨c1,c2,c3,c4,c5⟩:=common (rec .done (some c));refine ⟨_,_,hjump (some c),.inr ⟨rfl,?_⟩⟩;rw [hJx];exact ⟨xx,c,Mb,cJ st1 sb,hxc,c2,World.putObj_heap_same hlct,c3,c4,c1,ju hq hsh2 hsb2,hkx⟩
     cases xb with
     | normal =>
      obtain ⟨c1,c2,c3,c4,c5⟩:=common (rec .ready none);refine ⟨_,_,hjump none,.inl ⟨rfl,Mb,?_,c5⟩⟩;rw [hJ];exact ⟨c2,World.putObj_heap_same hlct,c3,c4,cJ st1 sb,c1,m7 _ _ _,hsh2,hsb2,hkb⟩
     | ret=>exact out .ret .ret rfl hkb
     | exit id=>exact out (.exit id) (.exit id) rfl hkb
   . rw [hJ];exact ⟨hfr.trans (Fr.below hb1 hroom),hL1,bF.refl _,Nat.le_refl _,st1,hga,rfl,fun _ _=>rfl,fun _ h=>h,h⟩
   . -- behind the iterator
     have fin':∀ (W2:World) (M1:ai) (s:St) (r r':Loop),Fr F w0 W2->W2.heap[w.heap.size+1]? = some (.loop r)->bF W1 W2->Good M0 F' M1 s a0 W2->iY s ->
      (Fr F w0 (W2.putObj (w.heap.size+1) (.loop r'))/\∃ M,Good M0 F' M s { a with defers:=[{ target:=.collected w.heap.size,args := #[] }]++a.defers } (W2.putObj (w.heap.size+1) (.loop r'))):=by
      intro W2 M1 s r r' h1 h2 h3 h4 h5;have hlt:=(Array.getElem?_eq_some_iff.1 h2).1;have hc2:∀ (k:Nat) (ob:Obj),W2.heap[k]? = some ob->ob.isCells=true->(W2.putObj (w.heap.size+1) (.loop r')).heap[k]? = some ob:=fun k ob e1 e2=>by
       rw [World.putObj_heap_other fun e=>by rw [e,h2] at e1;cases e1;cases e2];exact e1
      have hkd:bF W1 (W2.putObj (w.heap.size+1) (.loop r')):=fun D c e=>by
       rw [World.putObj_heap_other fun e'=>by rw [e',hL1] at e;cases e];exact h3 D c e
      refine ⟨h1.but (g:=w.heap.size+1) (hFl (W:=w)) rfl rfl rfl (by simp) fun k hk=>World.putObj_heap_other hk,M1,?_⟩;exact (h4.cells h5 (by simp) hc2 (by rw [ha0];trivial)).act ht0.symm (hmk1.keep hkd)
     rintro e W2 ⟨⟨u,rfl⟩,(⟨M1,hj⟩|hj)⟩
     . rw [hJ] at hj;obtain ⟨j1,j2,j3,j4,s,j5,j6,j7,j8,j9⟩:=hj;have h9:=run_endLoop (P:=P) j2 (by rw [hrec];simp);rw [hrec] at h9;refine ⟨none,_,h9,?_⟩;rw [List.drop_length] at j9;exact hk .normal s _ _ (fin' W2 M1 s _ _ j1 j2 j3 j5 (ju hq j7 j8)).1 (fin' W2 M1 s _ _ j1 j2 j3 j5 (ju hq j7 j8)).2 j9
     . rw [hJx] at hj;obtain ⟨xx,c,M1,s,j0,j1,j2,j3,j4,j5,j6,j7⟩:=hj;have h9:=run_endLoop (P:=P) j2 (by rw [hrec];simp);rw [hrec] at h9;refine ⟨some c,_,h9,?_⟩;cases xx with
       | normal=>cases j0
       | ret=>cases j0;exact wpIn_ret (hk .ret s _ _ (fin' W2 M1 s _ _ j1 j2 j3 j5 j6).1 (fin' W2 M1 s _ _ j1 j2 j3 j5 j6).2 j7)
       | exit id=>cases j0;exact wpIn_exit (hk (.exit id) s _ _ (fin' W2 M1 s _ _ j1 j2 j3 j5 j6).1 (fin' W2 M1 s _ _ j1 j2 j3 j5 j6).2 j7)
end
end Go.V
end
