/- Part. -/
import Derived.Test.YtmkbnifehdhbbabGreatDoorVH
import Derived.LoopNIn
import Derived.Scope
import Derived.RangeFuncLeaves
set_option linter.all false
noncomputable section
namespace Go.V
open Go.RowKit (Below)
section
variable {P : Program} [Inv P] {Φ : Nat → List Spec} {M0 : Base} {F : Nat → Prop} {w0 : World} {M : ai} {st st' : St} {a : Act} {w : World} {o : Oper} {ρ : Type}
theorem Nj {hints:List (Nat×List Nat)} {N:Nat} {c:Operand} {x y:Code} {pl:Option (List Nat)} {k:X->St->Out ρ} {fin:Out ρ} (hf:fin ≠ .fail) (h:bz P Φ hints N (.cond c x y) pl k st=fin) :
 ∃ v:Bool,ak st c = .d .bool v/\bz P Φ hints N (if v then x else y) pl k st=fin:=by
 unfold bz at h;split at h;rotate_left
 . exact absurd h.symm hf
 rename_i v e;refine ⟨v,e,?_⟩;cases c with
 | tmp t =>
  split at h
  . dsimp only at h;rw [lV e (by simp)] at h;exact h
  . dsimp only at h;rw [lV e (by simp)] at h;exact h
 | _ =>
  split at h
  . exact h
  . exact h
theorem Ht (t:Ty) (x:t.den):plain (dS t x)=true:=by cases t<;>rfl
def oJ (P:Program) [Inv P] (Φ:Nat->List Spec) (hints:List (Nat×List Nat)) (N:Nat) (fin:Out ρ) (c:Code):Prop :=
 ∀ (F:Nat->Prop) (M0:Base) (w0:World) (pl:Option (List Nat)) (ro:Option Nat) (n:Nat),(pl=none->ro=none)->(∀ w,Fr F w0 w->Inv.I P w)->(∀ j v,M0.pin j=some v->∃ l,pl=some l/\j∈l) ->
  ∀ (k:X->St->Out ρ) (Q:Exit->Act->World->Prop),
   (pl=none->∀ p q,fin = .pan p->cN p q->∀ st a w,aK F M0 w0 st a w->Q (.panic [{ v:=q,recovered:=false }]) a w) ->
   (∀ x st a w,aK F M0 w0 st a w->k x st=fin->Q x.exit' a w)->∀ st a w,aK F M0 w0 st a w->bz P Φ hints N c pl k st=fin->c.wpIn (aA ro) n P Q a w
theorem Cn {c:Bool} {x fin:Out ρ} (hf:fin ≠ .fail) (h:rP c x=fin):c=true/\x=fin:=by
 cases c with
 | true=>exact ⟨rfl,h⟩
 | false=>exact absurd h.symm hf
theorem zV {pl:Option (List Nat)} (hpl:∀ j v,M0.pin j=some v->∃ l,pl=some l/\j∈l) (h:lE pl st=true):∀ j v,M0.pin j=some v->au (get st j)=true:=by
 intro j v hj;obtain ⟨l,rfl,hm⟩:=hpl j v hj;exact List.all_eq_true.1 h j hm
def tV:X->Option Code
 | .normal=>none
 | .exit id=>some (.exit id)
 | .ret=>some .ret
theorem UL (hΦ:∀ g sp,sp∈Φ g->am P sp) (hints:List (Nat×List Nat)) (N:Nat) {fin:Out ρ} {assign body:Code} (iha:oJ P Φ hints N fin assign) (ihb:oJ P Φ hints N fin body)
 {n:Nat} (hI:∀ w,Fr F w0 w->Inv.I P w) (hpn:∀ j,M0.pin j=none) {k:X->St->Out ρ} {Q:Exit->Act->World->Prop} (hk:∀ x st a w,aK F M0 w0 st a w->k x st=fin->Q x.exit' a w)
 (hc:aK F M0 w0 st a w) {f:Operand} {ps:Array Tmp} {p:Nat} (hps:ps.toList=[p]) {g:Nat} {ta tb:Ty} {x:(Ty.clo g ta tb).den} (hop:ak st f = .d (.clo g ta tb) x) {y:(sp:Spec)×sp.arg.den}
 (hy:kV (.d (.clo g ta tb) x) (Φ g)=some y) {z:(e:Ty)×List e.den} (hz:tU y.1 y.2=some z) (hp:au (get st p)=false)
 (h:iR (fun k' s=>bz P Φ hints N assign (some (dW 0 (st.map dz))) (fun e s=>match e with | .normal=>bz P Φ hints N body (some (dW 0 (st.map dz))) k' s|_=>.fail) s) p z.1 (st.map dz) k z.2 (st.map dz)=fin)
 (hf:fin ≠ .fail):(Code.rangeFunc f ps assign body).wpIn (aA none) n P Q a w:=by
 obtain ⟨hfr,M,hg⟩:=hc;obtain ⟨m1,m2,m3⟩:=yE hy;have hct:=hΦ g _ m1;unfold am at hct;rw [m2] at hct;have hrep:aw M w y.1.arg (a.eval f) y.2:=cO (a:=a) (st:=st) (hop ▸ bx hg f) m3;obtain ⟨g',fs,pc,hv,hent,hit⟩:=hct y.2 M w (a.eval f) z (hI w hfr) hrep hg.lt hz;have hps':ps = #[p]:=by rw [<- Array.toArray_toList (xs:=ps),hps]
 subst hps';generalize hst1:st.map dz=st1 at h;generalize hbs:dW 0 st1=bs at h;have hq:oM st1:=hst1 ▸ HG st;have hgr:∀ j,get st1 j=dz (get st j):=fun j=>by
  rw [<- hst1];unfold get;rw [List.getD_eq_getElem?_getD,List.getD_eq_getElem?_getD,List.getElem?_map];cases st[j]? <;> rfl
 have hp1:au (get st1 p)=false:=by
  rw [hgr];cases hs:get st p<;>rw [hs] at hp<;>first|rfl|cases hp
 have hg1:Good M0 F M st1 a w:=hg.mask (by rw [<- hst1];simp) (fun j=>by
  rw [hgr];cases get st j<;>first|exact .inr (.inr rfl)|exact .inr (.inl rfl)) fun j v hj=>by rw [hpn j] at hj;cases hj
 show (Code.rangeFunc f #[p] assign body).wpIn Fence.wide n P Q a w;refine wpIn_rangeFunc ?_;intro fn hfn;obtain ⟨rec,hrec⟩:∃ rec:LoopState->Option Code->Loop,rec=fun st pe=>{ state:=st,pending:=pe,fn,tmps:=a.tmps,params := #[p],assign,body,defers:=w.heap.size }:=⟨_,rfl⟩
 obtain ⟨W1,hW1⟩:∃ W1,(w.alloc (.deferred (some []))).alloc (.loop (rec .ready none))=W1:=⟨_,rfl⟩
 obtain ⟨a0,ha0⟩:∃ a0:Act,a0={ tmps:=a.tmps,defers:=[] }:=⟨_,rfl⟩
 have ht0:a0.tmps=a.tmps:=by rw [ha0]
 have hsz1:W1.heap.size=w.heap.size+2:=by rw [<- hW1];simp
 have hL1:W1.heap[w.heap.size+1]? = some (.loop (rec .ready none)):=by
  rw [<- hW1];have:=World.alloc_heap_new (w.alloc (.deferred (some []))) (.loop (rec .ready none));rwa [World.size_alloc] at this
 have hK1:W1.heap[w.heap.size]? = some (.deferred (some [])):=by
  rw [<- hW1];exact (Below.heap_alloc _ _ _ (by simp)).trans (World.alloc_heap_new w _)
 have hb1:Below w.heap.size w W1:=by rw [<- hW1];exact ((Below.refl _ w).alloc (Nat.le_refl _) _).alloc (by simp) _
 have hmk1:dv M0.dm W1 ({ target:=.collected w.heap.size,args := #[] } :: a.defers):=by
  refine ⟨⟨_,rfl,hK1,hg.dm _ fun hF=>absurd (hg.room _ hF) (Nat.lt_irrefl _)⟩,fun d hd e=>?_,hg.defers.keep (bF.below hb1)⟩;have:∀ ds:List Deferred,dv M0.dm w ds->d∈ds->∃ D,d={ target:=.collected D,args := #[] }/\D<w.heap.size:=by
   intro ds
   induction ds with
   | nil=>intro _ h;simp at h
   | cons d' ds ih =>
    rintro ⟨⟨D,e1,e2,_⟩,_,h3⟩ h;rcases List.mem_cons.1 h with rfl|h
    . exact ⟨D,e1,(Array.getElem?_eq_some_iff.1 e2).1⟩
    . exact ih h3 h
  obtain ⟨D,e1,e2⟩:=this _ hg.defers hd;rw [e1] at e;simp only [Deferred.mk.injEq,Target.collected.injEq,and_true] at e;omega
 have hga:Good M0 F M st1 a0 W1:=(hg1.below hb1).act ht0 (by rw [ha0];trivial);obtain ⟨J,hJ⟩:∃ J:Nat->ai->World->Prop,J=fun i M1 W=>Fr F w0 W/\W.heap[w.heap.size+1]? = some (.loop (rec .ready none))/\bF W1 W/\W1.heap.size<=W.heap.size /\
  ∃ s,Good M0 F M1 s a0 W/\s.length=st1.length/\(∀ j,au (get st1 j)=false->get s j=get st1 j)/\(∀ j,au (get st1 j)=true->au (get s j)=true) /\
   iR (fun k' s=>bz P Φ hints N assign (some bs) (fun e s=>match e with | .normal=>bz P Φ hints N body (some bs) k' s|_=>.fail) s) p z.1 st1 k (z.2.drop i) s=fin:=⟨_,rfl⟩
 obtain ⟨Jx,hJx⟩:∃ Jx:World->Prop,Jx=fun W=>∃ (x:X) (c:Code) (M1:ai) (s:St),tV x=some c/\Fr F w0 W/\W.heap[w.heap.size+1]? = some (.loop (rec .done (some c)))/\bF W1 W/\W1.heap.size<=W.heap.size /\
  Good M0 F M1 s a0 W/\iY s/\k x s=fin:=⟨_,rfl⟩
 have hFl:∀ {W:World},¬ F (w.heap.size+1):=fun {_} hF=>by have:=hg.room _ hF;omega
 refine ⟨w.heap.size+1,[{ target:=.collected w.heap.size,args := #[] }],W1,{ target:=.fn (.func g') pc,args:=fs ++ #[.func (.yield (w.heap.size+1)) #[] #[]] },W1,g',fs ++ #[.func (.yield (w.heap.size+1)) #[] #[]]++pc,W1,?_,?_,fun _ _=>trivial,?_,fun h=>by simp [Fence.wide] at h,?_⟩
 . rw [<- hW1,hrec];exact run_enterLoop_outer _ _ _ _ _
 . simp only [resolve,hv];simp [Deferred.ofValue,Act.eval]
 . simp [invoke,dK hent]
 . have step:∀ {W2 W3:World},xk W1 W2 W3->W1.heap.size<=W2.heap.size->bF W1 W2->bF W1 W3:=fun hs hsz hk D c e =>
    (hs.1.block D (Array.getElem?_eq_some_iff.1 e).1).trans (hk D c e)
   refine callsIn_wide.2 ((hit (n - 1 - 1) (w.heap.size+1) (fun b=>b=w.heap.size+1) J Jx W1 M (B1 hb1) hb1.size (hI W1 (hfr.trans (Fr.below hb1 hg.room))) (fun b o hm=>Nat.lt_of_lt_of_le (hg.lt b o hm) hb1.size)
    (fun b e=>by subst e;exact ⟨by omega,fun ob e=>by rw [hL1] at e;cases e;rfl⟩) (fun i M1 W h=>hI _ (by rw [hJ] at h;exact h.1)) ?_ ?_ ?_ ?_).mono ?_)
   . -- the iterator's own steps
     intro i M1 W2 W3 hj hs;rw [hJ] at hj ⊢;obtain ⟨j1,j2,j3,j4,s,j5,j6,j7,j8,j9⟩:=hj;refine ⟨j1.trans (Fr.below hs.1 fun b hF=>Nat.lt_of_lt_of_le (hg.room b hF) hb1.size),(hs.1.block _ (by omega)).trans j2,step hs j4 j3,Nat.le_trans j4 hs.1.size,s,?_,j6,j7,j8,j9⟩;exact j5.cells (ju hq j7 j8) hs.1.size hs.2 (by rw [ha0];trivial)
   . intro W2 W3 hj hs;rw [hJx] at hj ⊢;obtain ⟨x,c,M1,s,j0,j1,j2,j3,j4,j5,j6,j7⟩:=hj;exact ⟨x,c,M1,s,j0,j1.trans (Fr.below hs.1 fun b hF=>Nat.lt_of_lt_of_le (hg.room b hF) hb1.size),(hs.1.block _ (by omega)).trans j2,step hs j4 j3,Nat.le_trans j4 hs.1.size,
      j5.cells j6 hs.1.size hs.2 (by rw [ha0];trivial),j6,j7⟩
   . -- one round
     intro i M1 W u yy hj hyi hu;rw [hJ] at hj;obtain ⟨j1,j2,j3,j4,s,j5,j6,j7,j8,j9⟩:=hj;have hyld:=run_yield (P:=P) (args := #[u]) j2 (by rw [hrec];rfl);rw [hrec] at hyld;refine ⟨fn,_,assign,body,hyld,roundIn_of_wpIn hfn ?_⟩;have hdrop:z.2.drop i=yy :: z.2.drop (i+1):=by
      obtain ⟨hlt,e⟩:=List.getElem?_eq_some_iff.1 hyi;rw [List.drop_eq_getElem_cons hlt,e]
     rw [hdrop] at j9;unfold iR at j9;have hns:=ju hq j7 j8;obtain ⟨G,hG⟩:∃ G:Nat->Prop,G=fun b=>b<W.heap.size/\∀ i k,¬ ap s a0 W i k b:=⟨_,rfl⟩
     obtain ⟨N0,hN0⟩:∃ N0:Base,N0={ mu:=fun b o=>M1 b o/\G b,ms:=M1,ws:=W,pin:=fun j=>if au (get st1 j)=true then some (tm a0 j) else none,dm:=fun _=>True }:=⟨_,rfl⟩
     have hb0:Good N0 G M1 s a0 W:=j5.rebase (fun b h=>by rw [hG] at h;exact h.1) (fun b o h=>by rw [hN0] at h;exact h.2) (fun b o h=>by rw [hN0] at h;exact h.1) (fun b o h1 h2=>by rw [hN0];exact ⟨h2,h1⟩)
      (fun i k b ho h=>by rw [hG] at h;exact h.2 i k ho) (by rw [hN0];exact l_ _ _) (fun j v hj=>by
       rw [hN0] at hj;dsimp only at hj;split at hj
       . rename_i hb;cases hj;exact ⟨rfl,j8 j hb⟩
       . cases hj) (fun _=>by rw [hN0];trivial)
     have hpb:au (get s p)=false:=by rw [j7 p hp1];exact hp1
     have hb1':=hb0.fin (dst:=some p) (s:=dS z.1 yy) (v:=u) (fun d hd=>by cases hd;exact hpb) (Ht _ _) (o_ hu);have hact:a0.put (some p) u={ tmps:=(#[p].zip #[u]).foldl (fun t (q,v)=>t.setIfInBounds q v) a.tmps,defers:=[] }:=by rw [ha0];simp [Act.put]
     rw [hact] at hb1';have hFG:∀ b,F b->G b:=fun b hF=>by rw [hG];exact ⟨Nat.lt_of_lt_of_le (hg.room b hF) (Nat.le_trans hb1.size j4),fun i k ho=>j5.new i k b ho hF⟩
     have hFrF:∀ {A B:World},Fr G A B->Fr F A B:=fun h=>⟨h.os,h.tape,h.output,h.size,fun b hF=>h.block b (hFG b hF)⟩
     have hplN:∀ j v,N0.pin j=some v->∃ l,some bs=some l/\j∈l:=fun j v hj=>by
      rw [hN0] at hj;dsimp only at hj;split at hj
      . rename_i hb;refine ⟨bs,rfl,?_⟩;rw [<- hbs];have:=zN st1 0 j hb
        rwa [Nat.zero_add] at this
      . cases hj
     have hGl:G (w.heap.size+1):=by
      rw [hG];refine ⟨(Array.getElem?_eq_some_iff.1 j2).1,fun i k ho=>?_⟩;obtain ⟨ob,e1,e2⟩:=nr j5 hns ho;rw [j2] at e1;cases e1;cases e2
     refine iha G N0 W (some bs) (some (w.heap.size+1)) _ (fun h=>by cases h) (fun w' hw'=>hI w' (j1.trans (hFrF hw'))) hplN _ _ (fun h=>by cases h) ?_ _ _ _ ⟨Fr.refl _ _,M1,hb1'⟩ j9;rintro xa sa aa wa ⟨hfa,Ma,hga'⟩ hka;cases xa with
     | exit i=>exact absurd hka.symm hf
     | ret=>exact absurd hka.symm hf
     | normal =>
     have hla:wa.heap[w.heap.size+1]? = some (.loop (rec .ready none)):=(hfa.block _ hGl).trans j2;have hlat:w.heap.size+1<wa.heap.size:=(Array.getElem?_eq_some_iff.1 hla).1;refine ⟨_,run_beginRound hla (by rw [hrec]),?_⟩;generalize hwb:wa.putObj (w.heap.size+1) (.loop { rec .ready none with state:=.busy })=wb;have hlb:wb.heap[w.heap.size+1]? = some (.loop { rec .ready none with state:=.busy }):=by rw [<- hwb];exact World.putObj_heap_same hlat
     have hob:∀ b,b≠w.heap.size+1->wb.heap[b]? = wa.heap[b]? := fun b hb=>by rw [<- hwb];exact World.putObj_heap_other hb
     have hszb:wb.heap.size=wa.heap.size:=by rw [<- hwb];simp
     have hcb:∀ (k:Nat) (ob:Obj),wa.heap[k]? = some ob->ob.isCells=true->wb.heap[k]? = some ob:=fun k ob e1 e2=>by
      rw [hob k fun e=>by rw [e,hla] at e1;cases e1;cases e2];exact e1
     have hstb:aL Ma wa Ma wb:=oe hcb;have hownG:∀ i k b,ap sa aa wa i k b->¬ G b:=fun i k b ho=>hga'.new i k b ho
     have hownab:∀ i k b,ap sa aa wb i k b->ap sa aa wa i k b:=fun i k b ho=>by
      refine cM (fun i b ho=>hob b fun e=>?_) ho;exact hga'.new i none b ho (e ▸ hGl)
     obtain ⟨G2,hG2⟩:∃ G2:Nat->Prop,G2=fun b=>b<wb.heap.size/\∀ i k,¬ ap sa aa wb i k b:=⟨_,rfl⟩
     obtain ⟨N2,hN2⟩:∃ N2:Base,N2={ mu:=fun b o=>Ma b o/\G2 b,ms:=M1,ws:=W,pin:=N0.pin,dm:=fun _=>True }:=⟨_,rfl⟩
     have hGG:∀ b,G b->G2 b:=fun b hb=>by
      rw [hG2];refine ⟨?_,fun i k ho=>hownG i k b (hownab i k b ho) hb⟩;have h1:b<W.heap.size:=by rw [hG] at hb;exact hb.1
      have:=hfa.size;omega
     have hgb:Good N0 G Ma sa aa wb:=by
      have hk':∀ i k b,ap sa aa wa i k b->wb.heap[b]? = wa.heap[b]? := fun i k b ho=>hob b fun e=>hga'.new i k b ho (e ▸ hGl)
      exact hga'.world hstb (by omega) hga'.up (fun b o hm=>by rw [hszb];exact hga'.lt b o hm) hga'.down (fun D c e=>(hob D fun e'=>by rw [e',hla] at e;cases e).trans e) fun i k b ho=>⟨hk' i k b ho,fun _ h=>h⟩
     have hgb2:Good N2 G2 Ma sa aa wb:=hgb.rebase (fun b h=>by rw [hG2] at h;exact h.1) (fun b o h=>by rw [hN2] at h;exact h.2) (fun b o h=>by rw [hN2] at h;exact h.1) (fun b o h1 h2=>by rw [hN2];exact ⟨h2,h1⟩)
      (fun i k b ho h=>by rw [hG2] at h;exact h.2 i k ho) (by have:=hgb.keep;rw [hN0] at this;rw [hN2];exact this) (fun j v hj=>hgb.pin j v (by rw [hN2] at hj;exact hj)) (fun _=>by rw [hN2];trivial)
     have hFrb:Fr F w0 wb:=(j1.trans (hFrF hfa)).but (g:=w.heap.size+1) (hFl (W:=w)) (by rw [<- hwb];rfl) (by rw [<- hwb];rfl) (by rw [<- hwb];rfl) (by omega) hob;have hF2:∀ {A B:World},Fr G2 A B->Fr F A B:=fun h=>⟨h.os,h.tape,h.output,h.size,fun b hF=>h.block b (hGG b (hFG b hF))⟩
     refine ihb G2 N2 wb (some bs) (some (w.heap.size+1)) _ (fun h=>by cases h) (fun w' hw'=>hI w' (hFrb.trans (hF2 hw'))) (fun j v hj=>hplN j v (by rw [hN2] at hj;exact hj)) _ _ (fun h=>by cases h) ?_ _ _ _ ⟨Fr.refl _ _,Ma,hgb2⟩ hka;rintro xb sb ab wc ⟨hfb,Mb,hgc⟩ hkb;have hlc:wc.heap[w.heap.size+1]? = some (.loop { rec .ready none with state:=.busy }):=(hfb.block _ (hGG _ hGl)).trans hlb;have hlct:w.heap.size+1<wc.heap.size:=(Array.getElem?_eq_some_iff.1 hlc).1;have hjump:∀ jump:Option Code,(Instr.endRound (w.heap.size+1) jump).run P wc = .ok (.bool jump.isNone) (wc.putObj (w.heap.size+1) (.loop (rec (if jump.isNone then .ready else .done) jump))):=fun jump=>by
      have:=run_endRound (P:=P) jump hlc;rw [hrec] at this ⊢;exact this
     have common:∀ (r:Loop),Good M0 F Mb (cJ st1 sb) a0 (wc.putObj (w.heap.size+1) (.loop r))/\Fr F w0 (wc.putObj (w.heap.size+1) (.loop r))/\bF W1 (wc.putObj (w.heap.size+1) (.loop r))/\W1.heap.size<=(wc.putObj (w.heap.size+1) (.loop r)).heap.size /\
      RoundKeeps (fun b=>b=w.heap.size+1) M1 W Mb (wc.putObj (w.heap.size+1) (.loop r)):=by
      intro r;generalize hwd:wc.putObj (w.heap.size+1) (.loop r)=wd;have hod:∀ b,b≠w.heap.size+1->wd.heap[b]? = wc.heap[b]? := fun b hb=>by rw [<- hwd];exact World.putObj_heap_other hb
      have hszd:wd.heap.size=wc.heap.size:=by rw [<- hwd];simp
      have hcd:∀ (k:Nat) (ob:Obj),wc.heap[k]? = some ob->ob.isCells=true->wd.heap[k]? = some ob:=fun k ob e1 e2=>by
       rw [hod k fun e=>by rw [e,hlc] at e1;cases e1;cases e2];exact e1
      have hstd:aL Mb wc Mb wd:=oe hcd;have hgd:Good N2 G2 Mb sb ab wd:=by
       have hk':∀ i k b,ap sb ab wc i k b->wd.heap[b]? = wc.heap[b]? := fun i k b ho=>hod b fun e=>hgc.new i k b ho (e ▸ hGG _ hGl)
       exact hgc.world hstd (by omega) hgc.up (fun b o hm=>by rw [hszd];exact hgc.lt b o hm) hgc.down (fun D c e=>(hod D fun e'=>by rw [e',hlc] at e;cases e).trans e) fun i k b ho=>⟨hk' i k b ho,fun _ h=>h⟩
      have hkeep:aL M1 W Mb wd:=by have:=hgd.keep;rw [hN2] at this;exact this
      have hmd:∀ b o,G b->Mb b o->M1 b o:=fun b o hb hm=>by
       have h1:=hgd.down b o (hGG b hb) hm;rw [hN2] at h1;have h2:=hgb.down b o hb h1.1;rw [hN0] at h2;exact h2.1
      have hmu:∀ b o,G b->M1 b o->Mb b o:=fun b o hb hm=>by
       have h1:N0.mu b o:=by rw [hN0];exact ⟨hm,hb⟩
       have h2:N2.mu b o:=by rw [hN2];exact ⟨hgb.up b o h1,hGG b hb⟩
       exact hgd.up b o h2
      have hsize:W.heap.size<=wd.heap.size:=by have:=hfa.size;have:=hfb.size;omega
      have hsame:∀ b,G b->b≠w.heap.size+1->wd.heap[b]? = W.heap[b]? := fun b hb hne=>by
       rw [hod b hne,hfb.block b (hGG b hb),hob b hne,hfa.block b hb]
      refine ⟨?_,?_,?_,by omega,?_⟩
      . refine Good.backed hq j5 j6 j7 hgd hkeep (fun j hj=>?_) (by rw [ha0];trivial) (fun b hF=>?_) (fun b o hm=>?_) (fun b o hF hm=>?_) (fun i k b ho hF=>?_) hpn (j5.keep)
        . have:=(hgd.pin j (tm a0 j) (by rw [hN2,hN0];simp [hj])).1;exact this
        . have:=hg.room b hF;omega
        . exact hmu b o (hFG b (j5.base b o hm)) (j5.up b o hm)
        . exact j5.down b o hF (hmd b o (hFG b hF) hm)
        . exact hgd.new i k b ho (hGG b (hFG b hF))
      . refine (hFrb.trans (hF2 hfb)).but (g:=w.heap.size+1) (hFl (W:=w)) (by rw [<- hwd];rfl) (by rw [<- hwd];rfl) (by rw [<- hwd];rfl) (by omega) hod
      . intro D c e;have e':=j3 D c e;have hD:G D:=by
         rw [hG];refine ⟨(Array.getElem?_eq_some_iff.1 e').1,fun i k ho=>?_⟩;obtain ⟨ob,e1,e2⟩:=nr j5 hns ho;rw [e'] at e1;cases e1;cases e2
        rw [hsame D hD fun h=>by rw [h,j2] at e';cases e'];exact e'
      . refine ⟨hsize,fun k o hm=>?_,hgd.lt,hkeep,fun k hlt hno hne=>?_⟩
        . rcases Nat.lt_or_ge k W.heap.size with hlt|hge
          . left
            by_cases hk:∃ i l,ap s a0 W i l k
            . obtain ⟨i,l,ho⟩:=hk;exact un j5 hns ho
            . exact ⟨o,hmd k o (by rw [hG];exact ⟨hlt,fun i l ho=>hk ⟨i,l,ho⟩⟩) hm⟩
          . exact .inr hge
        . refine hsame k ?_ hne;rw [hG];exact ⟨hlt,fun i l ho=>by obtain ⟨o,ho'⟩:=un j5 hns ho;exact hno o ho'⟩
     have hback:∀ j,get (cJ st1 sb) j=mC (get st1 j) (get sb j):=fun j=>by
      rcases Nat.lt_or_ge j st1.length with hj|hj
      . have:=tI sb st1 0 j hj
        rwa [Nat.zero_add] at this
      . rw [b7 (by show (i_ 0 st1 sb).length<=j;rw [m7];exact hj),b7 (st:=st1) hj];rfl
     have hsh2:∀ j,au (get st1 j)=false->get (cJ st1 sb) j=get st1 j:=fun j hj=>by
      rw [hback];cases hs:get st1 j<;>rw [hs] at hj<;>first|rfl|cases hj
     have hsb2:∀ j,au (get st1 j)=true->au (get (cJ st1 sb) j)=true:=fun j hj=>by
      rw [hback];have h2:=(hgc.pin j (tm a0 j) (by rw [hN2,hN0];simp [hj])).2;cases hs:get st1 j<;>rw [hs] at hj<;>simp [au] at hj
      cases hs':get sb j<;>rw [hs'] at h2<;>simp [au] at h2
      rfl
     have out:∀ (xx:X) (c:Code),tV xx=some c->k xx (cJ st1 sb)=fin->∃ v w',(Instr.endRound (w.heap.size+1) (some c)).run P wc = .ok v w' /\
      ((Ending.returned v = .returned (.bool true)/\∃ M2,J (i+1) M2 w'/\RoundKeeps (fun b=>b=w.heap.size+1) M1 W M2 w')\/(Ending.returned v = .returned (.bool false)/\Jx w')):=by
      intro xx c hxc hkx;obtain ⟨c1,c2,c3,c4,c5⟩:=common (rec .done (some c));refine ⟨_,_,hjump (some c),.inr ⟨rfl,?_⟩⟩;rw [hJx];exact ⟨xx,c,Mb,cJ st1 sb,hxc,c2,World.putObj_heap_same hlct,c3,c4,c1,ju hq hsh2 hsb2,hkx⟩
     cases xb with
     | normal =>
      obtain ⟨c1,c2,c3,c4,c5⟩:=common (rec .ready none);refine ⟨_,_,hjump none,.inl ⟨rfl,Mb,?_,c5⟩⟩;rw [hJ];exact ⟨c2,World.putObj_heap_same hlct,c3,c4,cJ st1 sb,c1,m7 _ _ _,hsh2,hsb2,hkb⟩
     | ret=>exact out .ret .ret rfl hkb
     | exit id=>exact out (.exit id) (.exit id) rfl hkb
   . rw [hJ];exact ⟨hfr.trans (Fr.below hb1 hg.room),hL1,bF.refl _,Nat.le_refl _,st1,hga,rfl,fun _ _=>rfl,fun _ h=>h,h⟩
   . -- behind the iterator
     have fin':∀ (W2:World) (M1:ai) (s:St) (r r':Loop),Fr F w0 W2->W2.heap[w.heap.size+1]? = some (.loop r)->bF W1 W2->Good M0 F M1 s a0 W2->iY s ->
      aK F M0 w0 s { a with defers:=[{ target:=.collected w.heap.size,args := #[] }]++a.defers } (W2.putObj (w.heap.size+1) (.loop r')):=by
      intro W2 M1 s r r' h1 h2 h3 h4 h5;have hlt:=(Array.getElem?_eq_some_iff.1 h2).1;have hc2:∀ (k:Nat) (ob:Obj),W2.heap[k]? = some ob->ob.isCells=true->(W2.putObj (w.heap.size+1) (.loop r')).heap[k]? = some ob:=fun k ob e1 e2=>by
       rw [World.putObj_heap_other fun e=>by rw [e,h2] at e1;cases e1;cases e2];exact e1
      have hkd:bF W1 (W2.putObj (w.heap.size+1) (.loop r')):=fun D c e=>by
       rw [World.putObj_heap_other fun e'=>by rw [e',hL1] at e;cases e];exact h3 D c e
      refine ⟨h1.but (g:=w.heap.size+1) (hFl (W:=w)) rfl rfl rfl (by simp) fun k hk=>World.putObj_heap_other hk,M1,?_⟩;exact (h4.cells h5 (by simp) hc2 (by rw [ha0];trivial)).act ht0.symm (hmk1.keep hkd)
     rintro e W2 ⟨⟨u,rfl⟩,(⟨M1,hj⟩|hj)⟩
     . rw [hJ] at hj;obtain ⟨j1,j2,j3,j4,s,j5,j6,j7,j8,j9⟩:=hj;have h9:=run_endLoop (P:=P) j2 (by rw [hrec];simp);rw [hrec] at h9;refine ⟨none,_,h9,?_⟩;rw [List.drop_length] at j9;exact hk .normal s _ _ (fin' W2 M1 s _ _ j1 j2 j3 j5 (ju hq j7 j8)) j9
     . rw [hJx] at hj;obtain ⟨xx,c,M1,s,j0,j1,j2,j3,j4,j5,j6,j7⟩:=hj;have h9:=run_endLoop (P:=P) j2 (by rw [hrec];simp);rw [hrec] at h9;refine ⟨some c,_,h9,?_⟩;cases xx with
       | normal=>cases j0
       | ret=>cases j0;exact wpIn_ret (hk .ret s _ _ (fin' W2 M1 s _ _ j1 j2 j3 j5 j6) j7)
       | exit id=>cases j0;exact wpIn_exit (hk (.exit id) s _ _ (fin' W2 M1 s _ _ j1 j2 j3 j5 j6) j7)
theorem ig (hΦ:∀ g sp,sp∈Φ g->am P sp) (hm:P.follows .mixedOrders=true) (hints:List (Nat×List Nat)) (N:Nat) {fin:Out ρ} (hf:fin ≠ .fail):∀ (c:Code),oJ P Φ hints N fin c:=by
 intro c
 induction c with
 | skip=>intro F M0 w0 pl ro n hro hI hpl k Q _ hQ st a w hc h;exact wpIn_skip (hQ .normal st a w hc h)
 | label l=>intro F M0 w0 pl ro n hro hI hpl k Q _ hQ st a w hc h;exact wpIn_label (hQ .normal st a w hc h)
 | ret=>intro F M0 w0 pl ro n hro hI hpl k Q _ hQ st a w hc h;exact wpIn_ret (hQ .ret st a w hc h)
 | exit i=>intro F M0 w0 pl ro n hro hI hpl k Q _ hQ st a w hc h;exact wpIn_exit (hQ (.exit i) st a w hc h)
 | region id ops draw =>
  intro F M0 w0 pl ro n hro hI hpl k Q hp hQ st a w hc h;unfold bz at h;obtain ⟨hpo,h⟩:=Cn hf h;have hc:=hc.frz (hints:=hints) (id:=id) (zV hpl hpo);cases draw with
  | true =>
   refine US (kp:=fun p=>match pl with|none=>.pan p|some _=>.fail) hΦ hI hm hc hf h (fun p q hk hq st a w hc=>?_) fun st a w hc h=>hQ .normal st a w hc h
   cases pl with
   | none=>exact hp rfl p q hk.symm hq st a w hc
   | some l=>exact absurd hk.symm hf
  | false =>
   refine wpIn_region ?_;have:=JW (F:=F) (M0:=M0) (w0:=w0) (ro:=ro) (n:=n) (ops:=ops) hΦ hI hf (Q:=Q) (fun g p q hk hq st a w hc=>by
    cases pl with
    | none=>exact hp rfl p q hk.symm hq st a w hc
    | some l=>exact absurd hk.symm hf) (fun st a w hc h=>hQ .normal st a w hc h) ops.toList 0 _ a w (fun j=>by simp) hc h
   rw [List.range_eq_range']
   simpa using this
 | seq x y ihx ihy =>
  intro F M0 w0 pl ro n hro hI hpl k Q hp hQ st a w hc h;refine wpIn_seq (ihx F M0 w0 pl ro n hro hI hpl _ _ ?_ ?_ st a w hc h)
  . intro hpn p q hp' hq st a w hc;exact hp hpn p q hp' hq st a w hc
  . intro x st a w hc h;cases x with
    | normal=>exact ihy F M0 w0 pl ro n hro hI hpl k Q hp hQ st a w hc h
    | exit i=>exact hQ (.exit i) st a w hc h
    | ret=>exact hQ .ret st a w hc h
 | scope b ih =>
  intro F M0 w0 pl ro n hro hI hpl k Q hp hQ st a w hc h;cases pl with
  | some l=>exact absurd h.symm hf
  | none =>
  obtain rfl:=hro rfl;refine wpIn_wide.2 (wp_scope_straight (wpIn_wide.1 (ih F M0 w0 none none n hro hI hpl k _ ?_ ?_ st a w hc h)))
  . intro hpn p q hp' hq st a w hc;exact hp hpn p q hp' hq st a w hc
  . intro x st a w hc h;have:=hQ x st a w hc h;cases x<;>exact this
 | block id b ih =>
  intro F M0 w0 pl ro n hro hI hpl k Q hp hQ st a w hc h;refine wpIn_block (ih F M0 w0 pl ro n hro hI hpl _ _ ?_ ?_ st a w hc h)
  . intro hpn p q hp' hq st a w hc;exact hp hpn p q hp' hq st a w hc
  . intro x st a w hc h;cases x with
    | normal=>exact hQ .normal st a w hc h
    | ret=>exact hQ .ret st a w hc h
    | exit i =>
     show if i=id then _ else _
     dsimp only at h;split
     . rename_i e;rw [if_pos e] at h;exact hQ .normal st a w hc h
     . rename_i e;rw [if_neg e] at h;exact hQ (.exit i) st a w hc h
 | cond c x y ihx ihy =>
  intro F M0 w0 pl ro n hro hI hpl k Q hp hQ st a w hc h;obtain ⟨v,e,h⟩:=Nj hf h;obtain ⟨hb,M,hg⟩:=id hc;refine wpIn_cond (jy (e ▸ bx hg c)) ?_;cases v with
  | true=>exact ihx F M0 w0 pl ro n hro hI hpl k Q hp hQ st a w hc h
  | false=>exact ihy F M0 w0 pl ro n hro hI hpl k Q hp hQ st a w hc h
 | loop b ih =>
  intro F M0 w0 pl ro n hro hI hpl k Q hp hQ st a w hc h;unfold bz at h;obtain ⟨hpo,h⟩:=Cn hf h;have key:∀ m st a w,aK F M0 w0 st a w->iter (fun k' s=>bz P Φ hints N b pl k' s) (Go.V.maskOf hints b) (fun s=>lE pl (Go.V.maskOf hints b s)) k m st=fin->Code.roundsIn (aA ro) n P b Q m a w:=by
   intro m
   induction m with
   | zero=>intro st a w _ h;exact absurd h.symm hf
   | succ m ihm =>
    intro st a w hc h;refine ih F M0 w0 pl ro n hro hI hpl _ _ ?_ ?_ st a w hc h
    . intro hpn p q hp' hq st a w hc;exact hp hpn p q hp' hq st a w hc
    . intro x st a w hc h;cases x with
      | normal =>
       obtain ⟨hpo,h⟩:=Cn hf h;exact ihm _ a w (hc.maskOf (zV hpl hpo)) h
      | exit i=>exact hQ (.exit i) st a w hc h
      | ret=>exact hQ .ret st a w hc h
  exact wpIn_loop_rounds N (key N _ a w (hc.maskOf (zV hpl hpo)) h)
 | rangeFunc f ps assign body iha ihb =>
  intro F M0 w0 pl ro n hro hI hpl k Q hp hQ st a w hc h;unfold bz at h;cases pl with
  | some l=>exact absurd h.symm hf
  | none =>
  obtain rfl:=hro rfl;dsimp only at h;split at h;rotate_left
  . exact absurd h.symm hf
  rename_i p g ta tb x hps hop;split at h;rotate_left
  . exact absurd h.symm hf
  rename_i y hy;split at h;rotate_left
  . exact absurd h.symm hf
  rename_i r hr;split at h;rotate_left
  . exact absurd h.symm hf
  rename_i z hz';have hz:tU y.1 y.2=some z:=by unfold tU;rw [hr];exact hz'
  split at h
  . exact absurd h.symm hf
  rename_i hpb;exact UL hΦ hints N iha ihb hI (fun j=>by
   cases hj:M0.pin j with
   | none=>rfl
   | some v=>obtain ⟨l,e,_⟩:=hpl j v hj;cases e) hQ hc hps hop hy hz hpb h hf
 | _=>intro F M0 w0 pl ro n hro hI hpl k Q _ _ st a w _ h;exact absurd h.symm hf
def KV (M:ai) (w:World) (F:Nat->Prop) (own:Bool) (t:Ty) (v:Value) (x:t.den):Prop :=
 aI M w [] ⟨#[],[]⟩ v (bP false own t x)/\∀ b,bf (bP false own t x)=true->ag v=some b->¬ F b
def re (tmps:Array Value):ResultVar->Sem Value
 | .tmp t=>pure (tmps.getD t undef)
 | .cell a t=>do loadVar t (<- asAddr (tmps.getD a undef))
theorem HT (hg:Good M0 F M st a w) {r:ResultVar} {own:Bool} {t:Ty} {x:t.den} (h:rc P r own st t=some x):∃ v,(re a.tmps r).run P w = .ok v w/\KV M w F own t v x:=by
 cases r with
 | tmp i =>
  refine ⟨tm a i,rfl,?_⟩;have hs:=hg.slot i;unfold rc at h;cases own with
  | false =>
   dsimp only at h;exact ⟨cO hs h,fun b hm=>by simp [bP,bf] at hm⟩
  | true =>
   dsimp only at h;split at h
   . rename_i u xs fr _ e;rw [e] at hs h;simp only [S.as] at h;split at h;rotate_left
     . cases h
     rename_i ht;subst ht;cases h;refine ⟨hs,fun b hm hb=>?_⟩;exact hg.new i none b ⟨by rw [e];rfl,hb⟩
   . rename_i _ e;rw [e] at hs h;cases t with
     | list e' =>
      simp only [S.as] at h;cases h;have hv:tm a i = .slice none 0 0:=hs;refine ⟨?_,fun b _ hb=>by rw [hv] at hb;simp [ag] at hb⟩;rw [hv];exact ⟨af.list_nil e',.inl ⟨rfl,rfl⟩⟩
     | _=>simp [S.as] at h
   . cases h
   . rename_i e;cases e
 | cell i T =>
  unfold rc at h;dsimp only at h;split at h;rotate_left
  . cases h
  rename_i cs hc;cases own with
  | true=>simp at h
  | false =>
   simp only [Bool.false_eq_true,if_false] at h;split at h;rotate_left
   . cases h
   rename_i ht;split at h;rotate_left
   . cases h
   rename_i y hy;simp only [Option.some.injEq] at h;subst h;have hs:=hg.slot i;rw [hc] at hs;obtain ⟨b',E,cells,f1,f2,f3,f4,f5⟩:=hs;have hall:cE M w cells.toList cs:=(ie _ _).2 ⟨by simpa using f3,fun k c u h1 h2=>f5 k c u h1 (by simpa using h2)⟩;obtain ⟨c1,us',k1,k2,_⟩:=pU t _ _ y [] hall hy;refine ⟨aP t c1,?_,⟨c1,rfl,k2⟩,fun b hm=>by simp [bP,bf] at hm⟩;have:=gr (P:=P) (w:=w) ht (b:=b') (off:=0) f2 (by simpa using k1) (af.length _ _ _ k2);simp only [re,Sem.run_bind];rw [show a.tmps.getD i undef = .pointer (some ⟨b',0,none⟩) from f1];exact this
theorem HU (hg:Good M0 F M st a w):∀ (rs:List ResultVar) (t:Ty) (x:t.den),nP P rs st t=some x->∃ vs:List Value,(rs.mapM (re a.tmps)).run P w = .ok vs w/\vs.length=rs.length/\bN M w t vs x
 | [],t,x,h=>by
  cases t with
  | unit=>exact ⟨[],rfl,rfl,rfl⟩
  | _=>simp [nP] at h
 | r :: rs,t,x,h=>by
  cases t with
  | prod p q =>
   simp only [nP] at h;split at h;rotate_left
   . cases h
   rename_i y hy;split at h;rotate_left
   . cases h
   rename_i z hz;cases h;obtain ⟨v,h1,h2,_⟩:=HT hg hy;obtain ⟨vs,h3,h4,h5⟩:=HU hg rs q z hz;refine ⟨v :: vs,?_,by simp [h4],v,vs,rfl,h2,h5⟩;simp only [List.mapM_cons,Sem.run_bind,h1,h3,Result.andThen_ok];rfl
  | _=>simp [nP] at h
theorem iS (hg:Good M0 F M st a w) {fn:Func} {multi own:Bool} {t:Ty} {out:Out t.den} (hf:out ≠ .fail) (h:dH P fn.results.toList multi own t st=out) :
 ∃ r,out = .ret r/\∃ v,(results fn a.tmps).run P w = .ok v w/\aI M w [] ⟨#[],[]⟩ v (bP multi own t r)/\∀ b,bf (bP multi own t r)=true->ag v=some b->¬ F b:=by
 have hres:results fn a.tmps=(do let vs <- fn.results.mapM (re a.tmps);pure (if h:vs.size=1 then vs[0] else .tuple vs)):=by
  unfold results
  congr 1
 have one:∀ (r:ResultVar) (v:Value),fn.results.toList=[r]->(re a.tmps r).run P w = .ok v w->(results fn a.tmps).run P w = .ok v w:=by
  intro r v hr h1;rw [hres,Array.mapM_eq_mapM_toList,Sem.run_bind,Sem.run_map,hr];simp only [List.mapM_cons,List.mapM_nil,Sem.run_bind,h1,Result.andThen_ok,Sem.run_pure];rfl
 unfold dH at h;cases multi with
 | true =>
  cases own with
  | true =>
   dsimp only at h;split at h;rotate_left
   . exact absurd h.symm hf
   rename_i r hr;split at h;rotate_left
   . exact absurd h.symm hf
   rename_i x hx;refine ⟨x,h.symm,?_⟩;unfold HQ at hx;split at hx;rotate_left
   . cases hx
   rename_i i;split at hx;rotate_left
   . cases hx
   rename_i u xs hh e;split at hx;rotate_left
   . cases hx
   rename_i ht;subst ht;cases hx;have hs:=hg.slot i;rw [e] at hs;refine ⟨tm a i,one _ _ hr rfl,hs,fun b _ hb=>hg.new i none b ⟨by rw [e];rfl,hb⟩⟩
  | false =>
   dsimp only at h;split at h
   . exact absurd h.symm hf
   rename_i rs hne;split at h;rotate_left
   . exact absurd h.symm hf
   rename_i x hx;refine ⟨x,h.symm,?_⟩;obtain ⟨vs,h1,h2,h3⟩:=HU hg _ t x hx;refine ⟨.tuple vs.toArray,?_,⟨vs,rfl,h3⟩,fun b hm=>by simp [bP,bf] at hm⟩;have hlen:vs.toArray.size≠1:=by
    rw [List.size_toArray,h2];intro e
    match hr:fn.results.toList with
    | [r]=>exact hne r hr
    | []=>rw [hr] at e;simp at e
    | _ :: _ :: _=>rw [hr] at e;simp at e
   rw [hres,Array.mapM_eq_mapM_toList,Sem.run_bind,Sem.run_map,h1];simp only [Result.andThen_ok,Sem.run_pure,dif_neg hlen]
 | false =>
  dsimp only at h;split at h;rotate_left
  . exact absurd h.symm hf
  rename_i r hr;split at h;rotate_left
  . exact absurd h.symm hf
  rename_i x hx;refine ⟨x,h.symm,?_⟩;obtain ⟨v,h1,h2,h3⟩:=HT hg hx;exact ⟨v,one r v hr h1,h2,h3⟩
def gi (M:ai) (w:World):Base:={ mu:=M,ms:=M,ws:=w,pin:=fun _=>none,dm:=fun D=>w.heap.size<=D }
theorem Ny {t:Ty} {x:t.den}:bf (dS t x)=false/\∀ cs,dS t x ≠ .box cs:=by cases t<;>exact ⟨rfl,fun _ h=>by cases h⟩
theorem DT:∀ (t:Ty) (x:t.den) (i:Nat),bf (get (cw t x) i)=false/\∀ cs,get (cw t x) i ≠ .box cs
 | .prod p q,x,0=>Ny (t:=p) (x:=x.1)
 | .prod p q,x,i+1=>by
  have:=DT q x.2 i
  simpa [cw,get] using this
 | .unit,_,_=>by simp [cw,get,bf]
 | .int _,_,_=>by simp [cw,get,bf]
 | .bool,_,_=>by simp [cw,get,bf]
 | .str,_,_=>by simp [cw,get,bf]
 | .list _,_,_=>by simp [cw,get,bf]
 | .raw,_,_=>by simp [cw,get,bf]
 | .opq,_,_=>by simp [cw,get,bf]
 | .dyn _ _,_,_=>by simp [cw,get,bf]
 | .ptr _,_,_=>by simp [cw,get,bf]
 | .clo _ _ _,_,_=>by simp [cw,get,bf]
theorem u5 {M:ai} {w:World} {vs:Array Value} {t:Ty} {x:t.den} {n:Nat} (h:bN M w t vs.toList x) (hlt:∀ b o,M b o->b<w.heap.size) :
 Good (gi M w) (· < w.heap.size) M (eM n t x) { tmps:=vs++Array.replicate (n - vs.size) undef,defers:=[] } w:=by
 have hok:=fun (a:Act) (st:St)=>xL (a:=a) (st:=st) t _ x h
 have hl:(cw t x).length=vs.size:=by simpa using (hok ⟨#[],[]⟩ []).1
 have hget:∀ i,get (eM n t x) i=get (cw t x) i:=by
  intro i;rcases Nat.lt_or_ge i vs.size with hi|hi
  . unfold eM get;rw [List.getD_eq_getElem?_getD,List.getD_eq_getElem?_getD,List.getElem?_append_left (by omega)]
  . rw [b7 (st:=cw t x) (by omega)];unfold eM get;rw [List.getD_eq_getElem?_getD,List.getElem?_append_right (by omega),List.getElem?_replicate];split<;>rfl
 have howns:∀ i k b,¬ ap (eM n t x) { tmps:=vs++Array.replicate (n - vs.size) undef,defers:=[] } w i k b:=by
  intro i k b ho;obtain ⟨g1,g2⟩:=DT t x i;cases k with
  | none=>have h3:=ho.1;rw [hget,g1] at h3;cases h3
  | some k=>obtain ⟨cs,_,_,_,h3,_⟩:=ho;rw [hget] at h3;exact g2 cs h3
 refine ⟨trivial,?_,fun _ h=>h,hlt,fun _ _ h=>h,hlt,fun _ _ _ h=>h,fun i=>?_,fun i k j l b ho=>absurd ho (howns i k b),fun i k b ho=>absurd ho (howns i k b),l_ _ _,fun j v hj=>(by cases hj),fun D hD=>Nat.le_of_not_lt hD⟩
 . simp [eM,hl]
 . rw [hget];rcases Nat.lt_or_ge i vs.size with hi|hi
   . have e1:(cw t x)[i]? = some (get (cw t x) i):=by
      have:i<(cw t x).length:=by omega
      unfold get;rw [List.getD_eq_getElem?_getD,List.getElem?_eq_getElem this];rfl
     refine (hok _ _).2 i _ _ e1 ?_;simp [tm,Array.getElem?_append_left hi,hi]
   . rw [b7 (by omega)];trivial
theorem gR {fn:Func} {n:Nat} {tmps:Array Value} {R:Ending->World->Prop} {mode:FrameMode} (hmode:mode ≠ .run) (hR:∀ M w,Good M0 F M st { tmps:=tmps,defers:=[] } w->Fr F w0 w->LeavesIn Fence.wide n P fn tmps R [] mode w)
 (hdm:∀ D,M0.dm D->¬ F D):∀ (ds:List Deferred) (M:ai) (w:World),Good M0 F M st { tmps:=tmps,defers:=ds } w->Fr F w0 w->LeavesInM Fence.wide n P fn tmps R ds mode w
 | [],M,w,hg,hfr=>hR M w hg hfr
 | d :: ds,M,w,hg,hfr=>by
  obtain ⟨⟨D,e,hD,hq⟩,hne,hrest⟩:=hg.defers;have hoth:∀ k,k≠D->(w.putObj D (.deferred none)).heap[k]? = w.heap[k]? := fun k hk=>World.putObj_heap_other hk
  have hownD:∀ i k b,ap st { tmps:=tmps,defers:=d :: ds } w i k b->b≠D:=by
   intro i k b ho hb;subst hb;have hsl:=hg.slot i;cases k with
   | none =>
    obtain ⟨h1,h2⟩:=ho;cases e:get st i<;>rw [e] at h1 hsl<;>simp [bf] at h1
    . rcases hsl.2 with ⟨e1,_⟩|⟨g,cap,cells,T,e1,e2,_⟩
      . rw [e1] at h2;simp [ag] at h2
      . rw [e1] at h2;simp [ag] at h2;subst h2;rw [hD] at e2;cases e2
    . obtain ⟨b',T,cells,e1,e2,_⟩:=hsl;rw [e1] at h2;simp [ag] at h2;subst h2;rw [hD] at e2;cases e2
    . rcases hsl with ⟨e1,_⟩|⟨g,cap,cells,T,e1,e2,_⟩
      . rw [e1] at h2;simp [ag] at h2
      . rw [e1] at h2;simp [ag] at h2;subst h2;rw [hD] at e2;cases e2
    . obtain ⟨r,e1,e2⟩:=hsl;rw [e1] at h2;simp [ag] at h2;subst h2;rw [hD] at e2;cases e2
   | some k =>
    obtain ⟨cs,c0,c,v,e1,e2,e0,e3,e4,e5⟩:=ho;rw [e1] at hsl;obtain ⟨b',T,cells,f1,f2,f3,f4,f5⟩:=hsl;rw [f1] at e3;simp [ag] at e3;subst e3;rw [cell_of_row w _ k cells T (0,0) f2] at e4;have:=f5 k _ v e2 e4;cases c0<;>simp [b_] at e0
    . rcases this.2 with ⟨e1,_⟩|⟨g,cap,cells,T,e1,e2,_⟩
      . rw [e1] at e5;simp [ag] at e5
      . rw [e1] at e5;simp [ag] at e5;subst e5;rw [hD] at e2;cases e2
    . rcases this with ⟨e1,_⟩|⟨g,cap,cells,T,e1,e2,_⟩
      . rw [e1] at e5;simp [ag] at e5
      . rw [e1] at e5;simp [ag] at e5;subst e5;rw [hD] at e2;cases e2
  have hstab:aL M w M (w.putObj D (.deferred none)):=oe fun k ob e1 e2=>by
   rw [hoth k fun e=>by rw [e,hD] at e1;cases e1;cases e2];exact e1
  have hmk:dv M0.dm (w.putObj D (.deferred none)) ds:=by
   have:∀ ds':List Deferred,(∀ d'∈ds',d'≠d)->dv M0.dm w ds'->dv M0.dm (w.putObj D (.deferred none)) ds':=by
    intro ds'
    induction ds' with
    | nil=>intro _ _;trivial
    | cons d1 ds' ih =>
     rintro h1 ⟨⟨D1,f1,f2,f3⟩,f4,f5⟩;refine ⟨⟨D1,f1,?_,f3⟩,f4,ih (fun d' hd'=>h1 d' (by simp [hd'])) f5⟩;rw [hoth D1 fun e'=>by subst e';exact h1 d1 (by simp) (f1.trans e.symm)];exact f2
   exact this ds hne hrest
  have hk':∀ i b,ap st { tmps:=tmps,defers:=d :: ds } w i none b->(w.putObj D (.deferred none)).heap[b]? = w.heap[b]? := fun i b ho=>hoth b (hownD i none b ho)
  have hg1:Good M0 F M st { tmps:=tmps,defers:=d :: ds } w:=hg;have hg2:Good M0 F M st { tmps:=tmps,defers:=ds } (w.putObj D (.deferred none)) :=
   ⟨hmk,hg.size,fun b hb=>by rw [World.putObj_size];exact hg.room b hb,hg.base,hg.up,fun b o hm=>by rw [World.putObj_size];exact hg.lt b o hm,hg.down,
    fun i=>Ig (a:={ tmps:=tmps,defers:=d :: ds }) (fun _=>rfl) (aI.keep hstab (u_ hk') rfl rfl (hg.slot i) fun k b hb=>⟨hoth b (hownD i k b hb),fun _ h=>h⟩),
    fun i k j l b h1 h2=>hg.one i k j l b (cM hk' (nq (a:={ tmps:=tmps,defers:=d :: ds }) (fun _=>rfl) h1)) (cM hk' (nq (a:={ tmps:=tmps,defers:=d :: ds }) (fun _=>rfl) h2)),
    fun i k b h1=>hg.new i k b (cM hk' (nq (a:={ tmps:=tmps,defers:=d :: ds }) (fun _=>rfl) h1)),hg.keep.trans hstab,hg.pin,hg.dm⟩
  refine ⟨hmode,.inl ⟨D,w.putObj D (.deferred none),by rw [e],run_takeDeferred hD,?_⟩⟩;exact gR hmode hR hdm ds M _ hg2 (hfr.but (hdm D hq) rfl rfl rfl (by simp) hoth)
theorem Nq (hm:P.follows .mixedOrders=true) (hΦ:∀ g sp,sp∈Φ g->am P sp) {sp:Spec} (hkind:sp.kind = .call) {fn:Func} {c:Code} (hfn:P.funcs[sp.fn]? = some fn) (hb:fn.body=some c)
 (hints:List (Nat×List Nat)) (N:Nat) (h:∀ x,sp.f x ≠ .fail->∃ n,N<=n/\JV P Φ hints n c fn.results.toList sp.multi sp.own sp.res (eM fn.ntmps sp.arg x)=sp.f x):am P sp:=by
 unfold am;rw [hkind];intro x M w vs hI hvs hlt;have hI':∀ w',Fr (· < w.heap.size) w w'->Inv.I P w':=fun w' hf=>Inv.below _ _ hI hf.toBelow
 have hdm:∀ D,(gi M w).dm D->¬ (D<w.heap.size):=fun D hD=>Nat.not_lt.2 hD
 have hst:=u5 (n:=fn.ntmps) hvs hlt;cases hx:sp.f x with
 | fail=>trivial
 | ret r =>
  obtain ⟨n,_,hv⟩:=h x (by rw [hx];simp);rw [hx] at hv;show Calls P sp.fn vs w _;refine callsIn_wide.1 (callsIn_of_wp_marks (n:=0) hfn hb trivial (ig hΦ hm hints n (by simp) c (· < w.heap.size) (gi M w) w none none 0 (fun _=>rfl) hI' (fun j v hj=>by cases hj) _ _ ?_ ?_ _ _ _ ⟨Fr.refl _ _,M,hst⟩ hv))
  . intro _ p q hp;cases hp
  . intro e st a w' hc hk;have key:dH P fn.results.toList sp.multi sp.own sp.res st = .ret r->LeavesInM Fence.wide 0 P fn a.tmps (fun e w'=>∃ v,e = .returned v/\Below w.heap.size w w'/\eA M w w' sp.multi sp.own sp.res v r) a.defers .returning w':=by
     intro hk;obtain ⟨hb',M',hg⟩:=hc;refine gR (M0:=gi M w) (F:=(· < w.heap.size)) (w0:=w) (st:=st) (by simp) (fun M2 w2 hg2 hf2=>?_) hdm a.defers M' w' hg hb';obtain ⟨r',h1,v,h2,h3,h4⟩:=iS (fn:=fn) hg2 (by simp) hk;cases h1;refine ⟨v,h2,v,rfl,hf2.toBelow,M2,hg2.up,fun b o hM=>?_,h3,fun b h5 h6=>Nat.le_of_not_lt (h4 b h5 h6)⟩;rcases Nat.lt_or_ge b w.heap.size with h5|h5
     . exact .inl (hg2.down b o h5 hM)
     . exact .inr ⟨h5,hg2.lt b o hM⟩
    cases e with
    | normal=>exact key hk
    | ret=>exact key hk
    | exit i=>cases hk
 | pan p =>
  obtain ⟨n,_,hv⟩:=h x (by rw [hx];simp);rw [hx] at hv;show Calls P sp.fn vs w _;refine callsIn_wide.1 (callsIn_of_wp_marks (n:=0) hfn hb trivial (ig hΦ hm hints n (by simp) c (· < w.heap.size) (gi M w) w none none 0 (fun _=>rfl) hI' (fun j v hj=>by cases hj) _ _ ?_ ?_ _ _ _ ⟨Fr.refl _ _,M,hst⟩ hv))
  . intro _ p' q hp hq st a w' hc;cases hp;obtain ⟨hb',M',hg⟩:=hc;exact gR (M0:=gi M w) (F:=(· < w.heap.size)) (w0:=w) (st:=st) (R:=fun e w'=>(∃ q,cN p q/\e = .panicked [{ v:=q,recovered:=false }])/\Below w.heap.size w w') (mode:=.panicking [{ v:=q,recovered:=false }]) (by simp)
     (fun M2 w2 hg2 hf2=>⟨⟨q,hq,rfl⟩,hf2.toBelow⟩) hdm a.defers M' w' hg hb'
  . intro e st a w' hc hk;obtain ⟨hb',M',hg⟩:=hc;have key:dH P fn.results.toList sp.multi sp.own sp.res st ≠ .pan p:=by
     intro hk;obtain ⟨r',h1,_⟩:=iS (fn:=fn) hg (by simp) hk;cases h1
    cases e with
    | normal=>exact absurd hk key
    | ret=>exact absurd hk key
    | exit i=>cases hk
end
inductive Pt where
 | at (n:Nat)
 | rg (e:Ty) (ys:List e.den) (st:St)
def av (f:Func):Code:=match f.body with|some c=>c|none=>.skip
section
variable {ρ : Type} (P : Program) (Φ : Nat → List Spec) (hints : List (Nat × List Nat)) (N : Nat)
def HY (b:Code) (pl:Option (List Nat)) (k:X->St->Out ρ) (n:Nat) (st:St):Out ρ :=
 iter (fun k' s=>bz P Φ hints N b pl k' s) (maskOf hints b) (fun s=>lE pl (maskOf hints b s)) k n st
def UK (assign body:Code) (p:Nat) (e:Ty) (ys:List e.den) (st:St) (k:X->St->Out ρ) (s:St):Out ρ :=
 iR (fun k' s=>bz P Φ hints N assign (some (dW 0 st)) (fun e s=>match e with | .normal=>bz P Φ hints N body (some (dW 0 st)) k' s|_=>.fail) s) p e st k ys s
def jF (fin:Code->Option (List Nat)->(X->St->Out ρ)->Out ρ):List Pt->Code->Option (List Nat)->(X->St->Out ρ)->Out ρ
 | [],c,pl,k=>fin c pl k
 | .at p :: ps,.seq a b,pl,k=>(match p with
  | 0=>jF fin ps a pl (fun e s=>match e with | .normal=>bz P Φ hints N b pl k s|e=>k e s)
  | _=>jF fin ps b pl k)
 | .at p :: ps,.cond _ a b,pl,k=>(match p with|0=>jF fin ps a pl k|_=>jF fin ps b pl k)
 | .at _ :: ps,.block id b,pl,k=>jF fin ps b pl (fun e s=>match e with
  | .exit i=>if i=id then k .normal s else k (.exit i) s
  | e=>k e s)
 | .at n :: ps,.loop b,pl,k=>jF fin ps b pl (fun e s=>match e with | .normal=>rP (lE pl (maskOf hints b s)) (HY P Φ hints N b pl k n (maskOf hints b s))|e=>k e s)
 | .at _ :: ps,.scope b,pl,k=>jF fin ps b pl k
 | .rg e ys st :: ps,.rangeFunc _ prs assign body,_,k=>(match prs.toList with
  | [p]=>jF fin ps body (some (dW 0 st)) (fun x s'=>match x with
   | .normal=>UK P Φ hints N assign body p e ys st k (cJ st s')
   | x=>k x (cJ st s'))
  | _=>.fail)
 | _,_,_,_=>.fail
def zB (rs:List ResultVar) (multi own:Bool) (t:Ty):X->St->Out t.den:=fun e s=>match e with
 | .normal=>dH P rs multi own t s
 | .ret=>dH P rs multi own t s
 | _=>.fail
def bS (f:Func) (multi own:Bool) (t:Ty) (path:List Pt) (n:Nat) (st:St):Out t.den :=
 jF P Φ hints N (fun c pl k=>match c with
  | .loop b=>HY P Φ hints N b pl k n st
  | _=>.fail) path (av f) none (zB P f.results.toList multi own t)
def aW (f:Func) (multi own:Bool) (a t:Ty) (x:a.den):Out t.den :=
 JV P Φ hints N (av f) f.results.toList multi own t (eM f.ntmps a x)
end
def ah (l:List Spec) (g:Nat):List Spec:=l.filter fun sp=>sp.fn==g
theorem eK {P:Program} [Inv P] {l:List Spec} (h:∀ sp∈l,am P sp):∀ g sp,sp∈ah l g->am P sp :=
 fun _ sp hs=>h sp (List.mem_filter.1 hs).1
theorem No {P:Program} [Inv P] (hm:P.follows .mixedOrders=true) {l:List Spec} (hl:∀ sp∈l,am P sp) (sp:Spec) (hkind:sp.kind = .call) {f:Func} (hf:P.funcs[sp.fn]? = some f) (hb:f.body.isSome=true)
 (hints:List (Nat×List Nat)) (h:∀ x,sp.f x ≠ .fail->∃ n,aW P (ah l) hints n f sp.multi sp.own sp.arg sp.res x=sp.f x):am P sp:=by
 obtain ⟨c,hc⟩:=Option.isSome_iff_exists.1 hb;refine Nq hm (eK hl) hkind hf hc hints 0 fun x hx=>?_
 obtain ⟨n,hn⟩:=h x hx;refine ⟨n,Nat.zero_le _,?_⟩;unfold aW av at hn;rw [hc] at hn;exact hn
theorem bi {P:Program} [Inv P] (hm:P.follows .mixedOrders=true) {l:List Spec} (hl:∀ sp∈l,am P sp) {fn:Nat} {arg res:Ty} {multi own:Bool} {F:arg.den->Out res.den} {f:Func}
 (hf:P.funcs[fn]? = some f) (hb:f.body.isSome=true) (hints:List (Nat×List Nat)) (h:∀ x,F x ≠ .fail->∃ n,aW P (ah l) hints n f multi own arg res x=F x):am P ⟨fn,.call,arg,res,multi,own,F⟩ :=
 No hm hl ⟨fn,.call,arg,res,multi,own,F⟩ rfl hf hb hints h
theorem aO {P:Program} [Inv P]:∀ sp∈([]:List Spec),am P sp:=fun _ h=>absurd h List.not_mem_nil
theorem all_cons {P:Program} [Inv P] {s:Spec} {l:List Spec} (h:am P s) (hl:∀ sp∈l,am P sp):∀ sp∈s :: l,am P sp:=by
 intro sp hs;rcases List.mem_cons.1 hs with rfl|hs
 . exact h
 . exact hl sp hs
@[irreducible] def fuel:Nat:=1099511627776
inductive RT where
 | ret (st:St)
 | fail
 | onOut (t:Ty) (o:Out t.den) (f:t.den->RT) (g:Value->RT)
section
variable {ρ : Type} (P : Program) (Φ : Nat → List Spec) (hints : List (Nat × List Nat)) (N : Nat)
def nW:RT->(St->Out ρ)->Out ρ
 | .ret st,k=>k st
 | .fail,_=>.fail
 | .onOut _ o f g,k=>match o with
  | .ret r=>nW (f r) k
  | .pan p=>nW (g p) k
  | .fail=>.fail
def oC (g:St->RT):List Nat->Code->(X->St->Out ρ)->St->Out ρ
 | [],_,k,st=>nW (g st) (fun s=>k .normal s)
 | p :: ps,.seq a b,k,st=>(match p with
  | 0=>oC g ps a (fun e s=>match e with | .normal=>bz P Φ hints N b none k s|e=>k e s) st
  | _=>bz P Φ hints N a none (fun e s=>match e with | .normal=>oC g ps b k s|e=>k e s) st)
 | _ :: ps,.block id b,k,st=>oC g ps b (fun e s=>match e with
  | .exit i=>if i=id then k .normal s else k (.exit i) s
  | e=>k e s) st
 | _ :: ps,.scope b,k,st=>oC g ps b k st
 | _,_,_,_=>.fail
def vn (g:St->RT) (path:List Nat) (f:Func) (multi own:Bool) (a t:Ty) (x:a.den):Out t.den :=
 oC P Φ hints N g path (av f) (zB P f.results.toList multi own t) (eM f.ntmps a x)
def ic:List Nat->Code->Option Code
 | [],c=>some c
 | p :: ps,.seq a b=>(match p with|0=>ic ps a|_=>ic ps b)
 | _ :: ps,.block _ b=>ic ps b
 | _ :: ps,.scope b=>ic ps b
 | _,_=>none
end
section
variable {P : Program} [Inv P] {Φ : Nat → List Spec} {ρ : Type}
def xm (P:Program) [Inv P] (c:Code) (g:St->RT):Prop :=
 ∀ {ρ:Type} (F:Nat->Prop) (M0:Base) (w0:World) (n:Nat),(∀ w,Fr F w0 w->Inv.I P w)->(∀ j v,M0.pin j=some v->False) ->
  ∀ (k:St->Out ρ) (fin:Out ρ) (Q:Exit->Act->World->Prop),fin ≠ .fail->(∀ st a w,aK F M0 w0 st a w->k st=fin->Q .normal a w) ->
   ∀ st a w,aK F M0 w0 st a w->nW (g st) k=fin->c.wpIn (aA none) n P Q a w
theorem mI (hΦ:∀ g sp,sp∈Φ g->am P sp) (hm:P.follows .mixedOrders=true) (hints:List (Nat×List Nat)) (N:Nat) {fin:Out ρ} (hf:fin ≠ .fail) {g:St->RT} {F:Nat->Prop} {M0:Base} {w0:World} {n:Nat}
 (hI:∀ w,Fr F w0 w->Inv.I P w) (hpl:∀ j v,M0.pin j=some v->False):∀ (path:List Nat) (c r:Code),ic path c=some r->xm P r g->∀ (k:X->St->Out ρ) (Q:Exit->Act->World->Prop),
  (∀ p q,fin = .pan p->cN p q->∀ st a w,aK F M0 w0 st a w->Q (.panic [{ v:=q,recovered:=false }]) a w) ->
  (∀ x st a w,aK F M0 w0 st a w->k x st=fin->Q x.exit' a w)->∀ st a w,aK F M0 w0 st a w->oC P Φ hints N g path c k st=fin->c.wpIn (aA none) n P Q a w
 | [],c,r,hr,hR,k,Q,_,hQ,st,a,w,hc,h=>by
  cases hr;exact hR F M0 w0 n hI hpl _ fin Q hf (fun st a w hc h=>hQ .normal st a w hc h) st a w hc h
 | 0 :: ps,.seq x y,r,hr,hR,k,Q,hp,hQ,st,a,w,hc,h=>by
  refine wpIn_seq (mI hΦ hm hints N hf hI hpl ps x r hr hR _ _ ?_ ?_ st a w hc h)
  . intro p q e hq st a w hc;exact hp p q e hq st a w hc
  . intro e st a w hc h;cases e with
    | normal=>exact ig hΦ hm hints N hf y F M0 w0 none none n (fun _=>rfl) hI (fun j v hj=>(hpl j v hj).elim) k Q (fun _=>hp) hQ st a w hc h
    | exit i=>exact hQ (.exit i) st a w hc h
    | ret=>exact hQ .ret st a w hc h
 | (_+1) :: ps,.seq x y,r,hr,hR,k,Q,hp,hQ,st,a,w,hc,h=>by
  refine wpIn_seq (ig hΦ hm hints N hf x F M0 w0 none none n (fun _=>rfl) hI (fun j v hj=>(hpl j v hj).elim) _ _ ?_ ?_ st a w hc h)
  . intro _ p q e hq st a w hc;exact hp p q e hq st a w hc
  . intro e st a w hc h;cases e with
    | normal=>exact mI hΦ hm hints N hf hI hpl ps y r hr hR k Q hp hQ st a w hc h
    | exit i=>exact hQ (.exit i) st a w hc h
    | ret=>exact hQ .ret st a w hc h
 | _ :: ps,.block id b,r,hr,hR,k,Q,hp,hQ,st,a,w,hc,h=>by
  refine wpIn_block (mI hΦ hm hints N hf hI hpl ps b r hr hR _ _ ?_ ?_ st a w hc h)
  . intro p q e hq st a w hc;exact hp p q e hq st a w hc
  . intro x st a w hc h;cases x with
    | normal=>exact hQ .normal st a w hc h
    | ret=>exact hQ .ret st a w hc h
    | exit i =>
     show if i=id then _ else _
     dsimp only at h;split
     . rename_i e;rw [if_pos e] at h;exact hQ .normal st a w hc h
     . rename_i e;rw [if_neg e] at h;exact hQ (.exit i) st a w hc h
 | _ :: ps,.scope b,r,hr,hR,k,Q,hp,hQ,st,a,w,hc,h=>by
  refine wpIn_wide.2 (wp_scope_straight ((wpIn_wide (n:=n)).1 (mI hΦ hm hints N hf hI hpl ps b r hr hR k _ ?_ ?_ st a w hc h)))
  . intro p q e hq st a w hc;exact hp p q e hq st a w hc
  . intro x st a w hc h;have:=hQ x st a w hc h;cases x<;>exact this
 | _ :: _,.skip,_,hr,_,_,_,_,_,_,_,_,_,_=>by cases hr
 | _ :: _,.region _ _ _,_,hr,_,_,_,_,_,_,_,_,_,_=>by cases hr
 | _ :: _,.cond _ _ _,_,hr,_,_,_,_,_,_,_,_,_,_=>by cases hr
 | _ :: _,.loop _,_,hr,_,_,_,_,_,_,_,_,_,_=>by cases hr
 | _ :: _,.rangeFunc _ _ _ _,_,hr,_,_,_,_,_,_,_,_,_,_=>by cases hr
 | _ :: _,.exit _,_,hr,_,_,_,_,_,_,_,_,_,_=>by cases hr
 | _ :: _,.label _,_,hr,_,_,_,_,_,_,_,_,_,_=>by cases hr
 | _ :: _,.goto _,_,hr,_,_,_,_,_,_,_,_,_,_=>by cases hr
 | _ :: _,.ret,_,hr,_,_,_,_,_,_,_,_,_,_=>by cases hr
 | _ :: _,.refuse _,_,hr,_,_,_,_,_,_,_,_,_,_=>by cases hr
end
section
variable {P : Program} [Inv P]
end
theorem Nk {P:Program} [Inv P] (hm:P.follows .mixedOrders=true) {l:List Spec} (hl:∀ sp∈l,am P sp) {fnn:Nat} {arg res:Ty} {multi own:Bool} {F:arg.den->Out res.den} {fn:Func} {c r:Code}
 (hfn:P.funcs[fnn]? = some fn) (hb:fn.body=some c) {g:St->RT} {path:List Nat} (hr:ic path c=some r) (hR:xm P r g) (hints:List (Nat×List Nat))
 (h:∀ x,F x ≠ .fail->∃ n,vn P (ah l) hints n g path fn multi own arg res x=F x):am P ⟨fnn,.call,arg,res,multi,own,F⟩:=by
 intro x M w vs hI hvs hlt;have hI':∀ w',Fr (· < w.heap.size) w w'->Inv.I P w':=fun w' hf=>Inv.below _ _ hI hf.toBelow
 have hdm:∀ D,(gi M w).dm D->¬ (D<w.heap.size):=fun D hD=>Nat.not_lt.2 hD
 have hst:=u5 (n:=fn.ntmps) hvs hlt;cases hx:F x with
 | fail=>simp only [hx]
 | ret r0 =>
  obtain ⟨n,hv⟩:=h x (by rw [hx];simp);rw [hx] at hv;unfold vn av at hv;rw [hb] at hv;simp only [hx];refine callsIn_wide.1 (callsIn_of_wp_marks (n:=0) hfn hb trivial (mI (eK hl) hm hints n (by simp) hI' (fun j v hj=>by cases hj) path c r hr hR _ _ ?_ ?_ _ _ _ ⟨Fr.refl _ _,M,hst⟩ hv))
  . intro p q hp;cases hp
  . intro e st a w' hc hk;have key:dH P fn.results.toList multi own res st = .ret r0->LeavesInM Fence.wide 0 P fn a.tmps (fun e w'=>∃ v,e = .returned v/\Go.RowKit.Below w.heap.size w w'/\eA M w w' multi own res v r0) a.defers .returning w':=by
     intro hk;obtain ⟨hb',M',hg⟩:=hc;refine gR (M0:=gi M w) (F:=(· < w.heap.size)) (w0:=w) (st:=st) (by simp) (fun M2 w2 hg2 hf2=>?_) hdm a.defers M' w' hg hb';obtain ⟨r',h1,v,h2,h3,h4⟩:=iS (fn:=fn) hg2 (by simp) hk;cases h1;refine ⟨v,h2,v,rfl,hf2.toBelow,M2,hg2.up,fun b o hM=>?_,h3,fun b h5 h6=>Nat.le_of_not_lt (h4 b h5 h6)⟩;rcases Nat.lt_or_ge b w.heap.size with h5|h5
     . exact .inl (hg2.down b o h5 hM)
     . exact .inr ⟨h5,hg2.lt b o hM⟩
    cases e with
    | normal=>exact key hk
    | ret=>exact key hk
    | exit i=>cases hk
 | pan p =>
  obtain ⟨n,hv⟩:=h x (by rw [hx];simp);rw [hx] at hv;unfold vn av at hv;rw [hb] at hv;simp only [hx];refine callsIn_wide.1 (callsIn_of_wp_marks (n:=0) hfn hb trivial (mI (eK hl) hm hints n (by simp) hI' (fun j v hj=>by cases hj) path c r hr hR _ _ ?_ ?_ _ _ _ ⟨Fr.refl _ _,M,hst⟩ hv))
  . intro p' q hp hq st a w' hc;cases hp;obtain ⟨hb',M',hg⟩:=hc;exact gR (M0:=gi M w) (F:=(· < w.heap.size)) (w0:=w) (st:=st) (R:=fun e w'=>(∃ q,cN p q/\e = .panicked [{ v:=q,recovered:=false }])/\Go.RowKit.Below w.heap.size w w') (mode:=.panicking [{ v:=q,recovered:=false }]) (by simp)
     (fun M2 w2 hg2 hf2=>⟨⟨q,hq,rfl⟩,hf2.toBelow⟩) hdm a.defers M' w' hg hb'
  . intro e st a w' hc hk;obtain ⟨hb',M',hg⟩:=hc;have key:dH P fn.results.toList multi own res st ≠ .pan p:=by
     intro hk;obtain ⟨r',h1,_⟩:=iS (fn:=fn) hg (by simp) hk;cases h1
    cases e with
    | normal=>exact absurd hk key
    | ret=>exact absurd hk key
    | exit i=>cases hk
end Go.V
end
