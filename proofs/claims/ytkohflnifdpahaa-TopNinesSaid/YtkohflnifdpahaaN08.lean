/- A part of the proof of TopNinesSaid: no condition beyond what each theorem says. -/
import Derived.Test.YtkohflnifdpahaaN07
import Derived.LoopNIn
import Derived.Scope
import Derived.RangeFuncLeaves
set_option linter.all false
namespace Go.V
open Go.RowKit (Below)
section
variable {P : Program} [Inv P] {Φ : Nat → List Spec} {M0 : Base} {F : Nat → Prop} {w0 : World} {M : Mut} {st st' : St} {a : Act} {w : World} {o : Oper} {ρ : Type}
theorem cond_case {hints:List (Nat×List Nat)} {N:Nat} {c:Operand} {x y:Code} {pl:Option (List Nat)} {k:X->St->Out ρ} {fin:Out ρ} (hf:fin ≠ .fail) (h:vexec P Φ hints N (.cond c x y) pl k st=fin) :
    ∃ v:Bool,opnd st c = .d .bool v/\vexec P Φ hints N (if v then x else y) pl k st=fin:=by
  unfold vexec at h
  split at h
  rotate_left
  . exact absurd h.symm hf
  rename_i v e
  refine ⟨v,e,?_⟩
  cases c with
  | tmp t =>
    split at h
    . dsimp only at h;rw [set_self e (by simp)] at h;exact h
    . dsimp only at h;rw [set_self e (by simp)] at h;exact h
  | _ =>
    split at h
    . exact h
    . exact h
theorem plain_dS (t:Ty) (x:t.den):plain (dS t x)=true:=by cases t<;>rfl
def CodeOK (P:Program) [Inv P] (Φ:Nat->List Spec) (hints:List (Nat×List Nat)) (N:Nat) (fin:Out ρ) (c:Code):Prop :=
  ∀ (F:Nat->Prop) (M0:Base) (w0:World) (pl:Option (List Nat)) (ro:Option Nat) (n:Nat),(pl=none->ro=none)->(∀ w,Fr F w0 w->Inv.I P w)->(∀ j v,M0.pin j=some v->∃ l,pl=some l/\j∈l) ->
    ∀ (k:X->St->Out ρ) (Q:Exit->Act->World->Prop),
      (pl=none->∀ p q,fin = .pan p->Like p q->∀ st a w,Conc F M0 w0 st a w->Q (.panic [{ v:=q,recovered:=false }]) a w) ->
      (∀ x st a w,Conc F M0 w0 st a w->k x st=fin->Q x.exit' a w)->∀ st a w,Conc F M0 w0 st a w->vexec P Φ hints N c pl k st=fin->c.wpIn (fen ro) n P Q a w
theorem vguard_ok {c:Bool} {x fin:Out ρ} (hf:fin ≠ .fail) (h:vguard c x=fin):c=true/\x=fin:=by
  cases c with
  | true=>exact ⟨rfl,h⟩
  | false=>exact absurd h.symm hf
theorem pins_of {pl:Option (List Nat)} (hpl:∀ j v,M0.pin j=some v->∃ l,pl=some l/\j∈l) (h:pinsOk pl st=true):∀ j v,M0.pin j=some v->isBox (get st j)=true:=by
  intro j v hj
  obtain ⟨l,rfl,hm⟩:=hpl j v hj
  exact List.all_eq_true.1 h j hm
def jumpOf:X->Option Code
  | .normal=>none
  | .exit id=>some (.exit id)
  | .ret=>some .ret
theorem range_ok (hΦ:∀ g sp,sp∈Φ g->Contract P sp) (hints:List (Nat×List Nat)) (N:Nat) {fin:Out ρ} {assign body:Code} (iha:CodeOK P Φ hints N fin assign) (ihb:CodeOK P Φ hints N fin body)
    {n:Nat} (hI:∀ w,Fr F w0 w->Inv.I P w) (hpn:∀ j,M0.pin j=none) {k:X->St->Out ρ} {Q:Exit->Act->World->Prop} (hk:∀ x st a w,Conc F M0 w0 st a w->k x st=fin->Q x.exit' a w)
    (hc:Conc F M0 w0 st a w) {f:Operand} {ps:Array Tmp} {p:Nat} (hps:ps.toList=[p]) {g:Nat} {ta tb:Ty} {x:(Ty.clo g ta tb).den} (hop:opnd st f = .d (.clo g ta tb) x) {y:(sp:Spec)×sp.arg.den}
    (hy:findIter (.d (.clo g ta tb) x) (Φ g)=some y) {z:(e:Ty)×List e.den} (hz:itemsOf y.1 y.2=some z) (hp:isBox (get st p)=false)
    (h:vrange (fun k' s=>vexec P Φ hints N assign (some (boxesOf 0 (st.map rngS))) (fun e s=>match e with | .normal=>vexec P Φ hints N body (some (boxesOf 0 (st.map rngS))) k' s|_=>.fail) s) p z.1 (st.map rngS) k z.2 (st.map rngS)=fin)
    (hf:fin ≠ .fail):(Code.rangeFunc f ps assign body).wpIn (fen none) n P Q a w:=by
  obtain ⟨hfr,M,hg⟩:=hc
  obtain ⟨m1,m2,m3⟩:=findIter_ok hy
  have hct:=hΦ g _ m1
  unfold Contract at hct
  rw [m2] at hct
  have hrep:RepV M w y.1.arg (a.eval f) y.2:=as_ok (a:=a) (st:=st) (hop ▸ opnd_ok hg f) m3
  obtain ⟨g',fs,pc,hv,hent,hit⟩:=hct y.2 M w (a.eval f) z (hI w hfr) hrep hg.lt hz
  have hps':ps = #[p]:=by rw [<- Array.toArray_toList (xs:=ps),hps]
  subst hps'
  generalize hst1:st.map rngS=st1 at h
  generalize hbs:boxesOf 0 st1=bs at h
  have hq:Quiet st1:=hst1 ▸ quiet_rng st
  have hgr:∀ j,get st1 j=rngS (get st j):=fun j=>by
    rw [<- hst1]
    unfold get
    rw [List.getD_eq_getElem?_getD,List.getD_eq_getElem?_getD,List.getElem?_map]
    cases st[j]? <;> rfl
  have hp1:isBox (get st1 p)=false:=by
    rw [hgr]
    cases hs:get st p<;>rw [hs] at hp<;>first|rfl|cases hp
  have hg1:Good M0 F M st1 a w:=hg.mask (by rw [<- hst1];simp) (fun j=>by
    rw [hgr]
    cases get st j<;>first|exact .inr (.inr rfl)|exact .inr (.inl rfl)) fun j v hj=>by rw [hpn j] at hj;cases hj
  show (Code.rangeFunc f #[p] assign body).wpIn Fence.wide n P Q a w
  refine wpIn_rangeFunc ?_
  intro fn hfn
  obtain ⟨rec,hrec⟩:∃ rec:LoopState->Option Code->Loop,rec=fun st pe=>{ state:=st,pending:=pe,fn,tmps:=a.tmps,params := #[p],assign,body,defers:=w.heap.size }:=⟨_,rfl⟩
  obtain ⟨W1,hW1⟩:∃ W1,(w.alloc (.deferred (some []))).alloc (.loop (rec .ready none))=W1:=⟨_,rfl⟩
  obtain ⟨a0,ha0⟩:∃ a0:Act,a0={ tmps:=a.tmps,defers:=[] }:=⟨_,rfl⟩
  have ht0:a0.tmps=a.tmps:=by rw [ha0]
  have hsz1:W1.heap.size=w.heap.size+2:=by rw [<- hW1];simp
  have hL1:W1.heap[w.heap.size+1]? = some (.loop (rec .ready none)):=by
    rw [<- hW1];have:=World.alloc_heap_new (w.alloc (.deferred (some []))) (.loop (rec .ready none));rwa [World.size_alloc] at this
  have hK1:W1.heap[w.heap.size]? = some (.deferred (some [])):=by
    rw [<- hW1];exact (Below.heap_alloc _ _ _ (by simp)).trans (World.alloc_heap_new w _)
  have hb1:Below w.heap.size w W1:=by rw [<- hW1];exact ((Below.refl _ w).alloc (Nat.le_refl _) _).alloc (by simp) _
  have hmk1:Marks M0.dm W1 ({ target:=.collected w.heap.size,args := #[] } :: a.defers):=by
    refine ⟨⟨_,rfl,hK1,hg.dm _ fun hF=>absurd (hg.room _ hF) (Nat.lt_irrefl _)⟩,fun d hd e=>?_,hg.defers.keep (KeepsD.below hb1)⟩
    have:∀ ds:List Deferred,Marks M0.dm w ds->d∈ds->∃ D,d={ target:=.collected D,args := #[] }/\D<w.heap.size:=by
      intro ds
      induction ds with
      | nil=>intro _ h;simp at h
      | cons d' ds ih =>
        rintro ⟨⟨D,e1,e2,_⟩,_,h3⟩ h
        rcases List.mem_cons.1 h with rfl|h
        . exact ⟨D,e1,(Array.getElem?_eq_some_iff.1 e2).1⟩
        . exact ih h3 h
    obtain ⟨D,e1,e2⟩:=this _ hg.defers hd
    rw [e1] at e
    simp only [Deferred.mk.injEq,Target.collected.injEq,and_true] at e
    omega
  have hga:Good M0 F M st1 a0 W1:=(hg1.below hb1).act ht0 (by rw [ha0];trivial)
  obtain ⟨J,hJ⟩:∃ J:Nat->Mut->World->Prop,J=fun i M1 W=>Fr F w0 W/\W.heap[w.heap.size+1]? = some (.loop (rec .ready none))/\KeepsD W1 W/\W1.heap.size<=W.heap.size /\
    ∃ s,Good M0 F M1 s a0 W/\s.length=st1.length/\(∀ j,isBox (get st1 j)=false->get s j=get st1 j)/\(∀ j,isBox (get st1 j)=true->isBox (get s j)=true) /\
      vrange (fun k' s=>vexec P Φ hints N assign (some bs) (fun e s=>match e with | .normal=>vexec P Φ hints N body (some bs) k' s|_=>.fail) s) p z.1 st1 k (z.2.drop i) s=fin:=⟨_,rfl⟩
  obtain ⟨Jx,hJx⟩:∃ Jx:World->Prop,Jx=fun W=>∃ (x:X) (c:Code) (M1:Mut) (s:St),jumpOf x=some c/\Fr F w0 W/\W.heap[w.heap.size+1]? = some (.loop (rec .done (some c)))/\KeepsD W1 W/\W1.heap.size<=W.heap.size /\
      Good M0 F M1 s a0 W/\NoSit s/\k x s=fin:=⟨_,rfl⟩
  have hFl:∀ {W:World},¬ F (w.heap.size+1):=fun {_} hF=>by have:=hg.room _ hF;omega
  refine ⟨w.heap.size+1,[{ target:=.collected w.heap.size,args := #[] }],W1,{ target:=.fn (.func g') pc,args:=fs ++ #[.func (.yield (w.heap.size+1)) #[] #[]] },W1,g',fs ++ #[.func (.yield (w.heap.size+1)) #[] #[]]++pc,W1,?_,?_,fun _ _=>trivial,?_,fun h=>by simp [Fence.wide] at h,?_⟩
  . rw [<- hW1,hrec];exact run_enterLoop_outer _ _ _ _ _
  . simp only [resolve,hv]
    simp [Deferred.ofValue,Act.eval]
  . simp [invoke,enters_run hent]
  . have step:∀ {W2 W3:World},IterStep W1 W2 W3->W1.heap.size<=W2.heap.size->KeepsD W1 W2->KeepsD W1 W3:=fun hs hsz hk D c e =>
      (hs.1.block D (Array.getElem?_eq_some_iff.1 e).1).trans (hk D c e)
    refine callsIn_wide.2 ((hit (n - 1 - 1) (w.heap.size+1) (fun b=>b=w.heap.size+1) J Jx W1 M (stable_below hb1) hb1.size (hI W1 (hfr.trans (Fr.below hb1 hg.room))) (fun b o hm=>Nat.lt_of_lt_of_le (hg.lt b o hm) hb1.size)
      (fun b e=>by subst e;exact ⟨by omega,fun ob e=>by rw [hL1] at e;cases e;rfl⟩) (fun i M1 W h=>hI _ (by rw [hJ] at h;exact h.1)) ?_ ?_ ?_ ?_).mono ?_)
    . -- the iterator's own steps
      intro i M1 W2 W3 hj hs
      rw [hJ] at hj ⊢
      obtain ⟨j1,j2,j3,j4,s,j5,j6,j7,j8,j9⟩:=hj
      refine ⟨j1.trans (Fr.below hs.1 fun b hF=>Nat.lt_of_lt_of_le (hg.room b hF) hb1.size),(hs.1.block _ (by omega)).trans j2,step hs j4 j3,Nat.le_trans j4 hs.1.size,s,?_,j6,j7,j8,j9⟩
      exact j5.cells (quiet_nosit hq j7 j8) hs.1.size hs.2 (by rw [ha0];trivial)
    . intro W2 W3 hj hs
      rw [hJx] at hj ⊢
      obtain ⟨x,c,M1,s,j0,j1,j2,j3,j4,j5,j6,j7⟩:=hj
      exact ⟨x,c,M1,s,j0,j1.trans (Fr.below hs.1 fun b hF=>Nat.lt_of_lt_of_le (hg.room b hF) hb1.size),(hs.1.block _ (by omega)).trans j2,step hs j4 j3,Nat.le_trans j4 hs.1.size,
        j5.cells j6 hs.1.size hs.2 (by rw [ha0];trivial),j6,j7⟩
    . -- one round
      intro i M1 W u yy hj hyi hu
      rw [hJ] at hj
      obtain ⟨j1,j2,j3,j4,s,j5,j6,j7,j8,j9⟩:=hj
      have hyld:=run_yield (P:=P) (args := #[u]) j2 (by rw [hrec];rfl)
      rw [hrec] at hyld
      refine ⟨fn,_,assign,body,hyld,roundIn_of_wpIn hfn ?_⟩
      have hdrop:z.2.drop i=yy :: z.2.drop (i+1):=by
        obtain ⟨hlt,e⟩:=List.getElem?_eq_some_iff.1 hyi
        rw [List.drop_eq_getElem_cons hlt,e]
      rw [hdrop] at j9
      unfold vrange at j9
      have hns:=quiet_nosit hq j7 j8
      obtain ⟨G,hG⟩:∃ G:Nat->Prop,G=fun b=>b<W.heap.size/\∀ i k,¬ owns s a0 W i k b:=⟨_,rfl⟩
      obtain ⟨N0,hN0⟩:∃ N0:Base,N0={ mu:=fun b o=>M1 b o/\G b,ms:=M1,ws:=W,pin:=fun j=>if isBox (get st1 j)=true then some (tm a0 j) else none,dm:=fun _=>True }:=⟨_,rfl⟩
      have hb0:Good N0 G M1 s a0 W:=j5.rebase (fun b h=>by rw [hG] at h;exact h.1) (fun b o h=>by rw [hN0] at h;exact h.2) (fun b o h=>by rw [hN0] at h;exact h.1) (fun b o h1 h2=>by rw [hN0];exact ⟨h2,h1⟩)
        (fun i k b ho h=>by rw [hG] at h;exact h.2 i k ho) (by rw [hN0];exact stable_refl _ _) (fun j v hj=>by
          rw [hN0] at hj
          dsimp only at hj
          split at hj
          . rename_i hb;cases hj;exact ⟨rfl,j8 j hb⟩
          . cases hj) (fun _=>by rw [hN0];trivial)
      have hpb:isBox (get s p)=false:=by rw [j7 p hp1];exact hp1
      have hb1':=hb0.fin (dst:=some p) (s:=dS z.1 yy) (v:=u) (fun d hd=>by cases hd;exact hpb) (plain_dS _ _) (dS_ok hu)
      have hact:a0.put (some p) u={ tmps:=(#[p].zip #[u]).foldl (fun t (q,v)=>t.setIfInBounds q v) a.tmps,defers:=[] }:=by rw [ha0];simp [Act.put]
      rw [hact] at hb1'
      have hFG:∀ b,F b->G b:=fun b hF=>by rw [hG];exact ⟨Nat.lt_of_lt_of_le (hg.room b hF) (Nat.le_trans hb1.size j4),fun i k ho=>j5.new i k b ho hF⟩
      have hFrF:∀ {A B:World},Fr G A B->Fr F A B:=fun h=>⟨h.os,h.tape,h.output,h.size,fun b hF=>h.block b (hFG b hF)⟩
      have hplN:∀ j v,N0.pin j=some v->∃ l,some bs=some l/\j∈l:=fun j v hj=>by
        rw [hN0] at hj
        dsimp only at hj
        split at hj
        . rename_i hb
          refine ⟨bs,rfl,?_⟩
          rw [<- hbs]
          have:=mem_boxesOf st1 0 j hb
          rwa [Nat.zero_add] at this
        . cases hj
      have hGl:G (w.heap.size+1):=by
        rw [hG]
        refine ⟨(Array.getElem?_eq_some_iff.1 j2).1,fun i k ho=>?_⟩
        obtain ⟨ob,e1,e2⟩:=owns_cells j5 hns ho
        rw [j2] at e1;cases e1;cases e2
      refine iha G N0 W (some bs) (some (w.heap.size+1)) _ (fun h=>by cases h) (fun w' hw'=>hI w' (j1.trans (hFrF hw'))) hplN _ _ (fun h=>by cases h) ?_ _ _ _ ⟨Fr.refl _ _,M1,hb1'⟩ j9
      rintro xa sa aa wa ⟨hfa,Ma,hga'⟩ hka
      cases xa with
      | exit i=>exact absurd hka.symm hf
      | ret=>exact absurd hka.symm hf
      | normal =>
      have hla:wa.heap[w.heap.size+1]? = some (.loop (rec .ready none)):=(hfa.block _ hGl).trans j2
      have hlat:w.heap.size+1<wa.heap.size:=(Array.getElem?_eq_some_iff.1 hla).1
      refine ⟨_,run_beginRound hla (by rw [hrec]),?_⟩
      generalize hwb:wa.putObj (w.heap.size+1) (.loop { rec .ready none with state:=.busy })=wb
      have hlb:wb.heap[w.heap.size+1]? = some (.loop { rec .ready none with state:=.busy }):=by rw [<- hwb];exact World.putObj_heap_same hlat
      have hob:∀ b,b≠w.heap.size+1->wb.heap[b]? = wa.heap[b]? := fun b hb=>by rw [<- hwb];exact World.putObj_heap_other hb
      have hszb:wb.heap.size=wa.heap.size:=by rw [<- hwb];simp
      have hcb:∀ (k:Nat) (ob:Obj),wa.heap[k]? = some ob->ob.isCells=true->wb.heap[k]? = some ob:=fun k ob e1 e2=>by
        rw [hob k fun e=>by rw [e,hla] at e1;cases e1;cases e2];exact e1
      have hstb:Stable Ma wa Ma wb:=stable_cells hcb
      have hownG:∀ i k b,owns sa aa wa i k b->¬ G b:=fun i k b ho=>hga'.new i k b ho
      have hownab:∀ i k b,owns sa aa wb i k b->owns sa aa wa i k b:=fun i k b ho=>by
        refine owns_world (fun i b ho=>hob b fun e=>?_) ho
        exact hga'.new i none b ho (e ▸ hGl)
      obtain ⟨G2,hG2⟩:∃ G2:Nat->Prop,G2=fun b=>b<wb.heap.size/\∀ i k,¬ owns sa aa wb i k b:=⟨_,rfl⟩
      obtain ⟨N2,hN2⟩:∃ N2:Base,N2={ mu:=fun b o=>Ma b o/\G2 b,ms:=M1,ws:=W,pin:=N0.pin,dm:=fun _=>True }:=⟨_,rfl⟩
      have hGG:∀ b,G b->G2 b:=fun b hb=>by
        rw [hG2]
        refine ⟨?_,fun i k ho=>hownG i k b (hownab i k b ho) hb⟩
        have h1:b<W.heap.size:=by rw [hG] at hb;exact hb.1
        have:=hfa.size
        omega
      have hgb:Good N0 G Ma sa aa wb:=by
        have hk':∀ i k b,owns sa aa wa i k b->wb.heap[b]? = wa.heap[b]? := fun i k b ho=>hob b fun e=>hga'.new i k b ho (e ▸ hGl)
        exact hga'.world hstb (by omega) hga'.up (fun b o hm=>by rw [hszb];exact hga'.lt b o hm) hga'.down (fun D c e=>(hob D fun e'=>by rw [e',hla] at e;cases e).trans e) fun i k b ho=>⟨hk' i k b ho,fun _ h=>h⟩
      have hgb2:Good N2 G2 Ma sa aa wb:=hgb.rebase (fun b h=>by rw [hG2] at h;exact h.1) (fun b o h=>by rw [hN2] at h;exact h.2) (fun b o h=>by rw [hN2] at h;exact h.1) (fun b o h1 h2=>by rw [hN2];exact ⟨h2,h1⟩)
        (fun i k b ho h=>by rw [hG2] at h;exact h.2 i k ho) (by have:=hgb.keep;rw [hN0] at this;rw [hN2];exact this) (fun j v hj=>hgb.pin j v (by rw [hN2] at hj;exact hj)) (fun _=>by rw [hN2];trivial)
      have hFrb:Fr F w0 wb:=(j1.trans (hFrF hfa)).but (g:=w.heap.size+1) (hFl (W:=w)) (by rw [<- hwb];rfl) (by rw [<- hwb];rfl) (by rw [<- hwb];rfl) (by omega) hob
      have hF2:∀ {A B:World},Fr G2 A B->Fr F A B:=fun h=>⟨h.os,h.tape,h.output,h.size,fun b hF=>h.block b (hGG b (hFG b hF))⟩
      refine ihb G2 N2 wb (some bs) (some (w.heap.size+1)) _ (fun h=>by cases h) (fun w' hw'=>hI w' (hFrb.trans (hF2 hw'))) (fun j v hj=>hplN j v (by rw [hN2] at hj;exact hj)) _ _ (fun h=>by cases h) ?_ _ _ _ ⟨Fr.refl _ _,Ma,hgb2⟩ hka
      rintro xb sb ab wc ⟨hfb,Mb,hgc⟩ hkb
      have hlc:wc.heap[w.heap.size+1]? = some (.loop { rec .ready none with state:=.busy }):=(hfb.block _ (hGG _ hGl)).trans hlb
      have hlct:w.heap.size+1<wc.heap.size:=(Array.getElem?_eq_some_iff.1 hlc).1
      have hjump:∀ jump:Option Code,(Instr.endRound (w.heap.size+1) jump).run P wc = .ok (.bool jump.isNone) (wc.putObj (w.heap.size+1) (.loop (rec (if jump.isNone then .ready else .done) jump))):=fun jump=>by
        have:=run_endRound (P:=P) jump hlc
        rw [hrec] at this ⊢
        exact this
      have common:∀ (r:Loop),Good M0 F Mb (back st1 sb) a0 (wc.putObj (w.heap.size+1) (.loop r))/\Fr F w0 (wc.putObj (w.heap.size+1) (.loop r))/\KeepsD W1 (wc.putObj (w.heap.size+1) (.loop r))/\W1.heap.size<=(wc.putObj (w.heap.size+1) (.loop r)).heap.size /\
          RoundKeeps (fun b=>b=w.heap.size+1) M1 W Mb (wc.putObj (w.heap.size+1) (.loop r)):=by
        intro r
        generalize hwd:wc.putObj (w.heap.size+1) (.loop r)=wd
        have hod:∀ b,b≠w.heap.size+1->wd.heap[b]? = wc.heap[b]? := fun b hb=>by rw [<- hwd];exact World.putObj_heap_other hb
        have hszd:wd.heap.size=wc.heap.size:=by rw [<- hwd];simp
        have hcd:∀ (k:Nat) (ob:Obj),wc.heap[k]? = some ob->ob.isCells=true->wd.heap[k]? = some ob:=fun k ob e1 e2=>by
          rw [hod k fun e=>by rw [e,hlc] at e1;cases e1;cases e2];exact e1
        have hstd:Stable Mb wc Mb wd:=stable_cells hcd
        have hgd:Good N2 G2 Mb sb ab wd:=by
          have hk':∀ i k b,owns sb ab wc i k b->wd.heap[b]? = wc.heap[b]? := fun i k b ho=>hod b fun e=>hgc.new i k b ho (e ▸ hGG _ hGl)
          exact hgc.world hstd (by omega) hgc.up (fun b o hm=>by rw [hszd];exact hgc.lt b o hm) hgc.down (fun D c e=>(hod D fun e'=>by rw [e',hlc] at e;cases e).trans e) fun i k b ho=>⟨hk' i k b ho,fun _ h=>h⟩
        have hkeep:Stable M1 W Mb wd:=by have:=hgd.keep;rw [hN2] at this;exact this
        have hmd:∀ b o,G b->Mb b o->M1 b o:=fun b o hb hm=>by
          have h1:=hgd.down b o (hGG b hb) hm
          rw [hN2] at h1
          have h2:=hgb.down b o hb h1.1
          rw [hN0] at h2
          exact h2.1
        have hmu:∀ b o,G b->M1 b o->Mb b o:=fun b o hb hm=>by
          have h1:N0.mu b o:=by rw [hN0];exact ⟨hm,hb⟩
          have h2:N2.mu b o:=by rw [hN2];exact ⟨hgb.up b o h1,hGG b hb⟩
          exact hgd.up b o h2
        have hsize:W.heap.size<=wd.heap.size:=by have:=hfa.size;have:=hfb.size;omega
        have hsame:∀ b,G b->b≠w.heap.size+1->wd.heap[b]? = W.heap[b]? := fun b hb hne=>by
          rw [hod b hne,hfb.block b (hGG b hb),hob b hne,hfa.block b hb]
        refine ⟨?_,?_,?_,by omega,?_⟩
        . refine Good.backed hq j5 j6 j7 hgd hkeep (fun j hj=>?_) (by rw [ha0];trivial) (fun b hF=>?_) (fun b o hm=>?_) (fun b o hF hm=>?_) (fun i k b ho hF=>?_) hpn (j5.keep)
          . have:=(hgd.pin j (tm a0 j) (by rw [hN2,hN0];simp [hj])).1
            exact this
          . have:=hg.room b hF;omega
          . exact hmu b o (hFG b (j5.base b o hm)) (j5.up b o hm)
          . exact j5.down b o hF (hmd b o (hFG b hF) hm)
          . exact hgd.new i k b ho (hGG b (hFG b hF))
        . refine (hFrb.trans (hF2 hfb)).but (g:=w.heap.size+1) (hFl (W:=w)) (by rw [<- hwd];rfl) (by rw [<- hwd];rfl) (by rw [<- hwd];rfl) (by omega) hod
        . intro D c e
          have e':=j3 D c e
          have hD:G D:=by
            rw [hG]
            refine ⟨(Array.getElem?_eq_some_iff.1 e').1,fun i k ho=>?_⟩
            obtain ⟨ob,e1,e2⟩:=owns_cells j5 hns ho
            rw [e'] at e1;cases e1;cases e2
          rw [hsame D hD fun h=>by rw [h,j2] at e';cases e']
          exact e'
        . refine ⟨hsize,fun k o hm=>?_,hgd.lt,hkeep,fun k hlt hno hne=>?_⟩
          . rcases Nat.lt_or_ge k W.heap.size with hlt|hge
            . left
              by_cases hk:∃ i l,owns s a0 W i l k
              . obtain ⟨i,l,ho⟩:=hk
                exact owns_mut j5 hns ho
              . exact ⟨o,hmd k o (by rw [hG];exact ⟨hlt,fun i l ho=>hk ⟨i,l,ho⟩⟩) hm⟩
            . exact .inr hge
          . refine hsame k ?_ hne
            rw [hG]
            exact ⟨hlt,fun i l ho=>by obtain ⟨o,ho'⟩:=owns_mut j5 hns ho;exact hno o ho'⟩
      have hback:∀ j,get (back st1 sb) j=backS (get st1 j) (get sb j):=fun j=>by
        rcases Nat.lt_or_ge j st1.length with hj|hj
        . have:=get_backF sb st1 0 j hj
          rwa [Nat.zero_add] at this
        . rw [get_oob (by show (backF 0 st1 sb).length<=j;rw [length_backF];exact hj),get_oob (st:=st1) hj];rfl
      have hsh2:∀ j,isBox (get st1 j)=false->get (back st1 sb) j=get st1 j:=fun j hj=>by
        rw [hback]
        cases hs:get st1 j<;>rw [hs] at hj<;>first|rfl|cases hj
      have hsb2:∀ j,isBox (get st1 j)=true->isBox (get (back st1 sb) j)=true:=fun j hj=>by
        rw [hback]
        have h2:=(hgc.pin j (tm a0 j) (by rw [hN2,hN0];simp [hj])).2
        cases hs:get st1 j<;>rw [hs] at hj<;>simp [isBox] at hj
        cases hs':get sb j<;>rw [hs'] at h2<;>simp [isBox] at h2
        rfl
      have out:∀ (xx:X) (c:Code),jumpOf xx=some c->k xx (back st1 sb)=fin->∃ v w',(Instr.endRound (w.heap.size+1) (some c)).run P wc = .ok v w' /\
          ((Ending.returned v = .returned (.bool true)/\∃ M2,J (i+1) M2 w'/\RoundKeeps (fun b=>b=w.heap.size+1) M1 W M2 w')\/(Ending.returned v = .returned (.bool false)/\Jx w')):=by
        intro xx c hxc hkx
        obtain ⟨c1,c2,c3,c4,c5⟩:=common (rec .done (some c))
        refine ⟨_,_,hjump (some c),.inr ⟨rfl,?_⟩⟩
        rw [hJx]
        exact ⟨xx,c,Mb,back st1 sb,hxc,c2,World.putObj_heap_same hlct,c3,c4,c1,quiet_nosit hq hsh2 hsb2,hkx⟩
      cases xb with
      | normal =>
        obtain ⟨c1,c2,c3,c4,c5⟩:=common (rec .ready none)
        refine ⟨_,_,hjump none,.inl ⟨rfl,Mb,?_,c5⟩⟩
        rw [hJ]
        exact ⟨c2,World.putObj_heap_same hlct,c3,c4,back st1 sb,c1,length_backF _ _ _,hsh2,hsb2,hkb⟩
      | ret=>exact out .ret .ret rfl hkb
      | exit id=>exact out (.exit id) (.exit id) rfl hkb
    . rw [hJ]
      exact ⟨hfr.trans (Fr.below hb1 hg.room),hL1,KeepsD.refl _,Nat.le_refl _,st1,hga,rfl,fun _ _=>rfl,fun _ h=>h,h⟩
    . -- behind the iterator
      have fin':∀ (W2:World) (M1:Mut) (s:St) (r r':Loop),Fr F w0 W2->W2.heap[w.heap.size+1]? = some (.loop r)->KeepsD W1 W2->Good M0 F M1 s a0 W2->NoSit s ->
          Conc F M0 w0 s { a with defers:=[{ target:=.collected w.heap.size,args := #[] }]++a.defers } (W2.putObj (w.heap.size+1) (.loop r')):=by
        intro W2 M1 s r r' h1 h2 h3 h4 h5
        have hlt:=(Array.getElem?_eq_some_iff.1 h2).1
        have hc2:∀ (k:Nat) (ob:Obj),W2.heap[k]? = some ob->ob.isCells=true->(W2.putObj (w.heap.size+1) (.loop r')).heap[k]? = some ob:=fun k ob e1 e2=>by
          rw [World.putObj_heap_other fun e=>by rw [e,h2] at e1;cases e1;cases e2];exact e1
        have hkd:KeepsD W1 (W2.putObj (w.heap.size+1) (.loop r')):=fun D c e=>by
          rw [World.putObj_heap_other fun e'=>by rw [e',hL1] at e;cases e];exact h3 D c e
        refine ⟨h1.but (g:=w.heap.size+1) (hFl (W:=w)) rfl rfl rfl (by simp) fun k hk=>World.putObj_heap_other hk,M1,?_⟩
        exact (h4.cells h5 (by simp) hc2 (by rw [ha0];trivial)).act ht0.symm (hmk1.keep hkd)
      rintro e W2 ⟨⟨u,rfl⟩,(⟨M1,hj⟩|hj)⟩
      . rw [hJ] at hj
        obtain ⟨j1,j2,j3,j4,s,j5,j6,j7,j8,j9⟩:=hj
        have h9:=run_endLoop (P:=P) j2 (by rw [hrec];simp)
        rw [hrec] at h9
        refine ⟨none,_,h9,?_⟩
        rw [List.drop_length] at j9
        exact hk .normal s _ _ (fin' W2 M1 s _ _ j1 j2 j3 j5 (quiet_nosit hq j7 j8)) j9
      . rw [hJx] at hj
        obtain ⟨xx,c,M1,s,j0,j1,j2,j3,j4,j5,j6,j7⟩:=hj
        have h9:=run_endLoop (P:=P) j2 (by rw [hrec];simp)
        rw [hrec] at h9
        refine ⟨some c,_,h9,?_⟩
        cases xx with
        | normal=>cases j0
        | ret=>cases j0;exact wpIn_ret (hk .ret s _ _ (fin' W2 M1 s _ _ j1 j2 j3 j5 j6) j7)
        | exit id=>cases j0;exact wpIn_exit (hk (.exit id) s _ _ (fin' W2 M1 s _ _ j1 j2 j3 j5 j6) j7)
theorem code_ok (hΦ:∀ g sp,sp∈Φ g->Contract P sp) (hm:P.follows .mixedOrders=true) (hints:List (Nat×List Nat)) (N:Nat) {fin:Out ρ} (hf:fin ≠ .fail):∀ (c:Code),CodeOK P Φ hints N fin c:=by
  intro c
  induction c with
  | skip=>intro F M0 w0 pl ro n hro hI hpl k Q _ hQ st a w hc h;exact wpIn_skip (hQ .normal st a w hc h)
  | label l=>intro F M0 w0 pl ro n hro hI hpl k Q _ hQ st a w hc h;exact wpIn_label (hQ .normal st a w hc h)
  | ret=>intro F M0 w0 pl ro n hro hI hpl k Q _ hQ st a w hc h;exact wpIn_ret (hQ .ret st a w hc h)
  | exit i=>intro F M0 w0 pl ro n hro hI hpl k Q _ hQ st a w hc h;exact wpIn_exit (hQ (.exit i) st a w hc h)
  | region id ops draw =>
    intro F M0 w0 pl ro n hro hI hpl k Q hp hQ st a w hc h
    unfold vexec at h
    obtain ⟨hpo,h⟩:=vguard_ok hf h
    have hc:=hc.frz (hints:=hints) (id:=id) (pins_of hpl hpo)
    cases draw with
    | true =>
      refine region_any (kp:=fun p=>match pl with|none=>.pan p|some _=>.fail) hΦ hI hm hc hf h (fun p q hk hq st a w hc=>?_) fun st a w hc h=>hQ .normal st a w hc h
      cases pl with
      | none=>exact hp rfl p q hk.symm hq st a w hc
      | some l=>exact absurd hk.symm hf
    | false =>
      refine wpIn_region ?_
      have:=vlex_seq (F:=F) (M0:=M0) (w0:=w0) (ro:=ro) (n:=n) (ops:=ops) hΦ hI hf (Q:=Q) (fun g p q hk hq st a w hc=>by
        cases pl with
        | none=>exact hp rfl p q hk.symm hq st a w hc
        | some l=>exact absurd hk.symm hf) (fun st a w hc h=>hQ .normal st a w hc h) ops.toList 0 _ a w (fun j=>by simp) hc h
      rw [List.range_eq_range']
      simpa using this
  | seq x y ihx ihy =>
    intro F M0 w0 pl ro n hro hI hpl k Q hp hQ st a w hc h
    refine wpIn_seq (ihx F M0 w0 pl ro n hro hI hpl _ _ ?_ ?_ st a w hc h)
    . intro hpn p q hp' hq st a w hc;exact hp hpn p q hp' hq st a w hc
    . intro x st a w hc h
      cases x with
      | normal=>exact ihy F M0 w0 pl ro n hro hI hpl k Q hp hQ st a w hc h
      | exit i=>exact hQ (.exit i) st a w hc h
      | ret=>exact hQ .ret st a w hc h
  | scope b ih =>
    intro F M0 w0 pl ro n hro hI hpl k Q hp hQ st a w hc h
    cases pl with
    | some l=>exact absurd h.symm hf
    | none =>
    obtain rfl:=hro rfl
    refine wpIn_wide.2 (wp_scope_straight (wpIn_wide.1 (ih F M0 w0 none none n hro hI hpl k _ ?_ ?_ st a w hc h)))
    . intro hpn p q hp' hq st a w hc;exact hp hpn p q hp' hq st a w hc
    . intro x st a w hc h
      have:=hQ x st a w hc h
      cases x<;>exact this
  | block id b ih =>
    intro F M0 w0 pl ro n hro hI hpl k Q hp hQ st a w hc h
    refine wpIn_block (ih F M0 w0 pl ro n hro hI hpl _ _ ?_ ?_ st a w hc h)
    . intro hpn p q hp' hq st a w hc;exact hp hpn p q hp' hq st a w hc
    . intro x st a w hc h
      cases x with
      | normal=>exact hQ .normal st a w hc h
      | ret=>exact hQ .ret st a w hc h
      | exit i =>
        show if i=id then _ else _
        dsimp only at h
        split
        . rename_i e;rw [if_pos e] at h;exact hQ .normal st a w hc h
        . rename_i e;rw [if_neg e] at h;exact hQ (.exit i) st a w hc h
  | cond c x y ihx ihy =>
    intro F M0 w0 pl ro n hro hI hpl k Q hp hQ st a w hc h
    obtain ⟨v,e,h⟩:=cond_case hf h
    obtain ⟨hb,M,hg⟩:=id hc
    refine wpIn_cond (slot_bool (e ▸ opnd_ok hg c)) ?_
    cases v with
    | true=>exact ihx F M0 w0 pl ro n hro hI hpl k Q hp hQ st a w hc h
    | false=>exact ihy F M0 w0 pl ro n hro hI hpl k Q hp hQ st a w hc h
  | loop b ih =>
    intro F M0 w0 pl ro n hro hI hpl k Q hp hQ st a w hc h
    unfold vexec at h
    obtain ⟨hpo,h⟩:=vguard_ok hf h
    have key:∀ m st a w,Conc F M0 w0 st a w->iter (fun k' s=>vexec P Φ hints N b pl k' s) (Go.V.maskOf hints b) (fun s=>pinsOk pl (Go.V.maskOf hints b s)) k m st=fin->Code.roundsIn (fen ro) n P b Q m a w:=by
      intro m
      induction m with
      | zero=>intro st a w _ h;exact absurd h.symm hf
      | succ m ihm =>
        intro st a w hc h
        refine ih F M0 w0 pl ro n hro hI hpl _ _ ?_ ?_ st a w hc h
        . intro hpn p q hp' hq st a w hc;exact hp hpn p q hp' hq st a w hc
        . intro x st a w hc h
          cases x with
          | normal =>
            obtain ⟨hpo,h⟩:=vguard_ok hf h
            exact ihm _ a w (hc.maskOf (pins_of hpl hpo)) h
          | exit i=>exact hQ (.exit i) st a w hc h
          | ret=>exact hQ .ret st a w hc h
    exact wpIn_loop_rounds N (key N _ a w (hc.maskOf (pins_of hpl hpo)) h)
  | rangeFunc f ps assign body iha ihb =>
    intro F M0 w0 pl ro n hro hI hpl k Q hp hQ st a w hc h
    unfold vexec at h
    cases pl with
    | some l=>exact absurd h.symm hf
    | none =>
    obtain rfl:=hro rfl
    dsimp only at h
    split at h
    rotate_left
    . exact absurd h.symm hf
    rename_i p g ta tb x hps hop
    split at h
    rotate_left
    . exact absurd h.symm hf
    rename_i y hy
    split at h
    rotate_left
    . exact absurd h.symm hf
    rename_i r hr
    split at h
    rotate_left
    . exact absurd h.symm hf
    rename_i z hz'
    have hz:itemsOf y.1 y.2=some z:=by unfold itemsOf;rw [hr];exact hz'
    split at h
    . exact absurd h.symm hf
    rename_i hpb
    exact range_ok hΦ hints N iha ihb hI (fun j=>by
      cases hj:M0.pin j with
      | none=>rfl
      | some v=>obtain ⟨l,e,_⟩:=hpl j v hj;cases e) hQ hc hps hop hy hz hpb h hf
  | _=>intro F M0 w0 pl ro n hro hI hpl k Q _ _ st a w _ h;exact absurd h.symm hf
def Handed1 (M:Mut) (w:World) (F:Nat->Prop) (own:Bool) (t:Ty) (v:Value) (x:t.den):Prop :=
  SlotOK M w [] ⟨#[],[]⟩ v (mkRes false own t x)/\∀ b,ownS (mkRes false own t x)=true->ownB v=some b->¬ F b
def resV (tmps:Array Value):ResultVar->Sem Value
  | .tmp t=>pure (tmps.getD t undef)
  | .cell a t=>do loadVar t (<- asAddr (tmps.getD a undef))
theorem resOf_ok (hg:Good M0 F M st a w) {r:ResultVar} {own:Bool} {t:Ty} {x:t.den} (h:resOf P r own st t=some x):∃ v,(resV a.tmps r).run P w = .ok v w/\Handed1 M w F own t v x:=by
  cases r with
  | tmp i =>
    refine ⟨tm a i,rfl,?_⟩
    have hs:=hg.slot i
    unfold resOf at h
    cases own with
    | false =>
      dsimp only at h
      exact ⟨as_ok hs h,fun b hm=>by simp [mkRes,ownS] at hm⟩
    | true =>
      dsimp only at h
      split at h
      . rename_i u xs fr _ e
        rw [e] at hs h
        simp only [S.as] at h
        split at h
        rotate_left
        . cases h
        rename_i ht
        subst ht
        cases h
        refine ⟨hs,fun b hm hb=>?_⟩
        exact hg.new i none b ⟨by rw [e];rfl,hb⟩
      . rename_i _ e
        rw [e] at hs h
        cases t with
        | list e' =>
          simp only [S.as] at h
          cases h
          have hv:tm a i = .slice none 0 0:=hs
          refine ⟨?_,fun b _ hb=>by rw [hv] at hb;simp [ownB] at hb⟩
          rw [hv]
          exact ⟨RepC.list_nil e',.inl ⟨rfl,rfl⟩⟩
        | _=>simp [S.as] at h
      . cases h
      . rename_i e;cases e
  | cell i T =>
    unfold resOf at h
    dsimp only at h
    split at h
    rotate_left
    . cases h
    rename_i cs hc
    cases own with
    | true=>simp at h
    | false =>
      simp only [Bool.false_eq_true,if_false] at h
      split at h
      rotate_left
      . cases h
      rename_i ht
      split at h
      rotate_left
      . cases h
      rename_i y hy
      simp only [Option.some.injEq] at h
      subst h
      have hs:=hg.slot i
      rw [hc] at hs
      obtain ⟨b',E,cells,f1,f2,f3,f4,f5⟩:=hs
      have hall:CellsOK M w cells.toList cs:=(cellsOK_iff _ _).2 ⟨by simpa using f3,fun k c u h1 h2=>f5 k c u h1 (by simpa using h2)⟩
      obtain ⟨c1,us',k1,k2,_⟩:=gath_ok t _ _ y [] hall hy
      refine ⟨toVal t c1,?_,⟨c1,rfl,k2⟩,fun b hm=>by simp [mkRes,ownS] at hm⟩
      have:=load_cells (P:=P) (w:=w) ht (b:=b') (off:=0) f2 (by simpa using k1) (RepC.length _ _ _ k2)
      simp only [resV,Sem.run_bind]
      rw [show a.tmps.getD i undef = .pointer (some ⟨b',0,none⟩) from f1]
      exact this
theorem resOfs_ok (hg:Good M0 F M st a w):∀ (rs:List ResultVar) (t:Ty) (x:t.den),resOfs P rs st t=some x->∃ vs:List Value,(rs.mapM (resV a.tmps)).run P w = .ok vs w/\vs.length=rs.length/\RepT M w t vs x
  | [],t,x,h=>by
    cases t with
    | unit=>exact ⟨[],rfl,rfl,rfl⟩
    | _=>simp [resOfs] at h
  | r :: rs,t,x,h=>by
    cases t with
    | prod p q =>
      simp only [resOfs] at h
      split at h
      rotate_left
      . cases h
      rename_i y hy
      split at h
      rotate_left
      . cases h
      rename_i z hz
      cases h
      obtain ⟨v,h1,h2,_⟩:=resOf_ok hg hy
      obtain ⟨vs,h3,h4,h5⟩:=resOfs_ok hg rs q z hz
      refine ⟨v :: vs,?_,by simp [h4],v,vs,rfl,h2,h5⟩
      simp only [List.mapM_cons,Sem.run_bind,h1,h3,Result.andThen_ok]
      rfl
    | _=>simp [resOfs] at h
theorem vres_ok (hg:Good M0 F M st a w) {fn:Func} {multi own:Bool} {t:Ty} {out:Out t.den} (hf:out ≠ .fail) (h:vres P fn.results.toList multi own t st=out) :
    ∃ r,out = .ret r/\∃ v,(results fn a.tmps).run P w = .ok v w/\SlotOK M w [] ⟨#[],[]⟩ v (mkRes multi own t r)/\∀ b,ownS (mkRes multi own t r)=true->ownB v=some b->¬ F b:=by
  have hres:results fn a.tmps=(do let vs <- fn.results.mapM (resV a.tmps);pure (if h:vs.size=1 then vs[0] else .tuple vs)):=by
    unfold results
    congr 1
  have one:∀ (r:ResultVar) (v:Value),fn.results.toList=[r]->(resV a.tmps r).run P w = .ok v w->(results fn a.tmps).run P w = .ok v w:=by
    intro r v hr h1
    rw [hres,Array.mapM_eq_mapM_toList,Sem.run_bind,Sem.run_map,hr]
    simp only [List.mapM_cons,List.mapM_nil,Sem.run_bind,h1,Result.andThen_ok,Sem.run_pure]
    rfl
  unfold vres at h
  cases multi with
  | true =>
    cases own with
    | true =>
      dsimp only at h
      split at h
      rotate_left
      . exact absurd h.symm hf
      rename_i r hr
      split at h
      rotate_left
      . exact absurd h.symm hf
      rename_i x hx
      refine ⟨x,h.symm,?_⟩
      unfold resArr at hx
      split at hx
      rotate_left
      . cases hx
      rename_i i
      split at hx
      rotate_left
      . cases hx
      rename_i u xs hh e
      split at hx
      rotate_left
      . cases hx
      rename_i ht
      subst ht
      cases hx
      have hs:=hg.slot i
      rw [e] at hs
      refine ⟨tm a i,one _ _ hr rfl,hs,fun b _ hb=>hg.new i none b ⟨by rw [e];rfl,hb⟩⟩
    | false =>
      dsimp only at h
      split at h
      . exact absurd h.symm hf
      rename_i rs hne
      split at h
      rotate_left
      . exact absurd h.symm hf
      rename_i x hx
      refine ⟨x,h.symm,?_⟩
      obtain ⟨vs,h1,h2,h3⟩:=resOfs_ok hg _ t x hx
      refine ⟨.tuple vs.toArray,?_,⟨vs,rfl,h3⟩,fun b hm=>by simp [mkRes,ownS] at hm⟩
      have hlen:vs.toArray.size≠1:=by
        rw [List.size_toArray,h2]
        intro e
        match hr:fn.results.toList with
        | [r]=>exact hne r hr
        | []=>rw [hr] at e;simp at e
        | _ :: _ :: _=>rw [hr] at e;simp at e
      rw [hres,Array.mapM_eq_mapM_toList,Sem.run_bind,Sem.run_map,h1]
      simp only [Result.andThen_ok,Sem.run_pure,dif_neg hlen]
  | false =>
    dsimp only at h
    split at h
    rotate_left
    . exact absurd h.symm hf
    rename_i r hr
    split at h
    rotate_left
    . exact absurd h.symm hf
    rename_i x hx
    refine ⟨x,h.symm,?_⟩
    obtain ⟨v,h1,h2,h3⟩:=resOf_ok hg hx
    exact ⟨v,one r v hr h1,h2,h3⟩
def base0 (M:Mut) (w:World):Base:={ mu:=M,ms:=M,ws:=w,pin:=fun _=>none,dm:=fun D=>w.heap.size<=D }
theorem dS_und {t:Ty} {x:t.den}:ownS (dS t x)=false/\∀ cs,dS t x ≠ .box cs:=by cases t<;>exact ⟨rfl,fun _ h=>by cases h⟩
theorem argS_get:∀ (t:Ty) (x:t.den) (i:Nat),ownS (get (argS t x) i)=false/\∀ cs,get (argS t x) i ≠ .box cs
  | .prod p q,x,0=>dS_und (t:=p) (x:=x.1)
  | .prod p q,x,i+1=>by
    have:=argS_get q x.2 i
    simpa [argS,get] using this
  | .unit,_,_=>by simp [argS,get,ownS]
  | .int _,_,_=>by simp [argS,get,ownS]
  | .bool,_,_=>by simp [argS,get,ownS]
  | .str,_,_=>by simp [argS,get,ownS]
  | .list _,_,_=>by simp [argS,get,ownS]
  | .raw,_,_=>by simp [argS,get,ownS]
  | .opq,_,_=>by simp [argS,get,ownS]
  | .dyn _ _,_,_=>by simp [argS,get,ownS]
  | .ptr _,_,_=>by simp [argS,get,ownS]
  | .clo _ _ _,_,_=>by simp [argS,get,ownS]
theorem start {M:Mut} {w:World} {vs:Array Value} {t:Ty} {x:t.den} {n:Nat} (h:RepT M w t vs.toList x) (hlt:∀ b o,M b o->b<w.heap.size) :
    Good (base0 M w) (· < w.heap.size) M (st0 n t x) { tmps:=vs++Array.replicate (n - vs.size) undef,defers:=[] } w:=by
  have hok:=fun (a:Act) (st:St)=>argS_ok (a:=a) (st:=st) t _ x h
  have hl:(argS t x).length=vs.size:=by simpa using (hok ⟨#[],[]⟩ []).1
  have hget:∀ i,get (st0 n t x) i=get (argS t x) i:=by
    intro i
    rcases Nat.lt_or_ge i vs.size with hi|hi
    . unfold st0 get
      rw [List.getD_eq_getElem?_getD,List.getD_eq_getElem?_getD,List.getElem?_append_left (by omega)]
    . rw [get_oob (st:=argS t x) (by omega)]
      unfold st0 get
      rw [List.getD_eq_getElem?_getD,List.getElem?_append_right (by omega),List.getElem?_replicate]
      split<;>rfl
  have howns:∀ i k b,¬ owns (st0 n t x) { tmps:=vs++Array.replicate (n - vs.size) undef,defers:=[] } w i k b:=by
    intro i k b ho
    obtain ⟨g1,g2⟩:=argS_get t x i
    cases k with
    | none=>have h3:=ho.1;rw [hget,g1] at h3;cases h3
    | some k=>obtain ⟨cs,_,_,_,h3,_⟩:=ho;rw [hget] at h3;exact g2 cs h3
  refine ⟨trivial,?_,fun _ h=>h,hlt,fun _ _ h=>h,hlt,fun _ _ _ h=>h,fun i=>?_,fun i k j l b ho=>absurd ho (howns i k b),fun i k b ho=>absurd ho (howns i k b),stable_refl _ _,fun j v hj=>(by cases hj),fun D hD=>Nat.le_of_not_lt hD⟩
  . simp [st0,hl]
  . rw [hget]
    rcases Nat.lt_or_ge i vs.size with hi|hi
    . have e1:(argS t x)[i]? = some (get (argS t x) i):=by
        have:i<(argS t x).length:=by omega
        unfold get
        rw [List.getD_eq_getElem?_getD,List.getElem?_eq_getElem this];rfl
      refine (hok _ _).2 i _ _ e1 ?_
      simp [tm,Array.getElem?_append_left hi,hi]
    . rw [get_oob (by omega)];trivial
theorem leave {fn:Func} {n:Nat} {tmps:Array Value} {R:Ending->World->Prop} {mode:FrameMode} (hmode:mode ≠ .run) (hR:∀ M w,Good M0 F M st { tmps:=tmps,defers:=[] } w->Fr F w0 w->LeavesIn Fence.wide n P fn tmps R [] mode w)
    (hdm:∀ D,M0.dm D->¬ F D):∀ (ds:List Deferred) (M:Mut) (w:World),Good M0 F M st { tmps:=tmps,defers:=ds } w->Fr F w0 w->LeavesInM Fence.wide n P fn tmps R ds mode w
  | [],M,w,hg,hfr=>hR M w hg hfr
  | d :: ds,M,w,hg,hfr=>by
    obtain ⟨⟨D,e,hD,hq⟩,hne,hrest⟩:=hg.defers
    have hoth:∀ k,k≠D->(w.putObj D (.deferred none)).heap[k]? = w.heap[k]? := fun k hk=>World.putObj_heap_other hk
    have hownD:∀ i k b,owns st { tmps:=tmps,defers:=d :: ds } w i k b->b≠D:=by
      intro i k b ho hb
      subst hb
      have hsl:=hg.slot i
      cases k with
      | none =>
        obtain ⟨h1,h2⟩:=ho
        cases e:get st i<;>rw [e] at h1 hsl<;>simp [ownS] at h1
        . rcases hsl.2 with ⟨e1,_⟩|⟨g,cap,cells,T,e1,e2,_⟩
          . rw [e1] at h2;simp [ownB] at h2
          . rw [e1] at h2;simp [ownB] at h2;subst h2;rw [hD] at e2;cases e2
        . obtain ⟨b',T,cells,e1,e2,_⟩:=hsl
          rw [e1] at h2;simp [ownB] at h2;subst h2;rw [hD] at e2;cases e2
        . rcases hsl with ⟨e1,_⟩|⟨g,cap,cells,T,e1,e2,_⟩
          . rw [e1] at h2;simp [ownB] at h2
          . rw [e1] at h2;simp [ownB] at h2;subst h2;rw [hD] at e2;cases e2
        . obtain ⟨r,e1,e2⟩:=hsl
          rw [e1] at h2;simp [ownB] at h2;subst h2;rw [hD] at e2;cases e2
      | some k =>
        obtain ⟨cs,c0,c,v,e1,e2,e0,e3,e4,e5⟩:=ho
        rw [e1] at hsl
        obtain ⟨b',T,cells,f1,f2,f3,f4,f5⟩:=hsl
        rw [f1] at e3;simp [ownB] at e3;subst e3
        rw [cell_of_row w _ k cells T (0,0) f2] at e4
        have:=f5 k _ v e2 e4
        cases c0<;>simp [ownC] at e0
        . rcases this.2 with ⟨e1,_⟩|⟨g,cap,cells,T,e1,e2,_⟩
          . rw [e1] at e5;simp [ownB] at e5
          . rw [e1] at e5;simp [ownB] at e5;subst e5;rw [hD] at e2;cases e2
        . rcases this with ⟨e1,_⟩|⟨g,cap,cells,T,e1,e2,_⟩
          . rw [e1] at e5;simp [ownB] at e5
          . rw [e1] at e5;simp [ownB] at e5;subst e5;rw [hD] at e2;cases e2
    have hstab:Stable M w M (w.putObj D (.deferred none)):=stable_cells fun k ob e1 e2=>by
      rw [hoth k fun e=>by rw [e,hD] at e1;cases e1;cases e2];exact e1
    have hmk:Marks M0.dm (w.putObj D (.deferred none)) ds:=by
      have:∀ ds':List Deferred,(∀ d'∈ds',d'≠d)->Marks M0.dm w ds'->Marks M0.dm (w.putObj D (.deferred none)) ds':=by
        intro ds'
        induction ds' with
        | nil=>intro _ _;trivial
        | cons d1 ds' ih =>
          rintro h1 ⟨⟨D1,f1,f2,f3⟩,f4,f5⟩
          refine ⟨⟨D1,f1,?_,f3⟩,f4,ih (fun d' hd'=>h1 d' (by simp [hd'])) f5⟩
          rw [hoth D1 fun e'=>by subst e';exact h1 d1 (by simp) (f1.trans e.symm)];exact f2
      exact this ds hne hrest
    have hk':∀ i b,owns st { tmps:=tmps,defers:=d :: ds } w i none b->(w.putObj D (.deferred none)).heap[b]? = w.heap[b]? := fun i b ho=>hoth b (hownD i none b ho)
    have hg1:Good M0 F M st { tmps:=tmps,defers:=d :: ds } w:=hg
    have hg2:Good M0 F M st { tmps:=tmps,defers:=ds } (w.putObj D (.deferred none)) :=
      ⟨hmk,hg.size,fun b hb=>by rw [World.putObj_size];exact hg.room b hb,hg.base,hg.up,fun b o hm=>by rw [World.putObj_size];exact hg.lt b o hm,hg.down,
        fun i=>slot_act (a:={ tmps:=tmps,defers:=d :: ds }) (fun _=>rfl) (SlotOK.keep hstab (turn_world hk') rfl rfl (hg.slot i) fun k b hb=>⟨hoth b (hownD i k b hb),fun _ h=>h⟩),
        fun i k j l b h1 h2=>hg.one i k j l b (owns_world hk' (owns_act (a:={ tmps:=tmps,defers:=d :: ds }) (fun _=>rfl) h1)) (owns_world hk' (owns_act (a:={ tmps:=tmps,defers:=d :: ds }) (fun _=>rfl) h2)),
        fun i k b h1=>hg.new i k b (owns_world hk' (owns_act (a:={ tmps:=tmps,defers:=d :: ds }) (fun _=>rfl) h1)),hg.keep.trans hstab,hg.pin,hg.dm⟩
    refine ⟨hmode,.inl ⟨D,w.putObj D (.deferred none),by rw [e],run_takeDeferred hD,?_⟩⟩
    exact leave hmode hR hdm ds M _ hg2 (hfr.but (hdm D hq) rfl rfl rfl (by simp) hoth)
theorem contract_of (hm:P.follows .mixedOrders=true) (hΦ:∀ g sp,sp∈Φ g->Contract P sp) {sp:Spec} (hkind:sp.kind = .call) {fn:Func} {c:Code} (hfn:P.funcs[sp.fn]? = some fn) (hb:fn.body=some c)
    (hints:List (Nat×List Nat)) (N:Nat) (h:∀ x,sp.f x ≠ .fail->∃ n,N<=n/\vbody P Φ hints n c fn.results.toList sp.multi sp.own sp.res (st0 fn.ntmps sp.arg x)=sp.f x):Contract P sp:=by
  unfold Contract
  rw [hkind]
  intro x M w vs hI hvs hlt
  have hI':∀ w',Fr (· < w.heap.size) w w'->Inv.I P w':=fun w' hf=>Inv.below _ _ hI hf.toBelow
  have hdm:∀ D,(base0 M w).dm D->¬ (D<w.heap.size):=fun D hD=>Nat.not_lt.2 hD
  have hst:=start (n:=fn.ntmps) hvs hlt
  cases hx:sp.f x with
  | fail=>trivial
  | ret r =>
    obtain ⟨n,_,hv⟩:=h x (by rw [hx];simp)
    rw [hx] at hv
    show Calls P sp.fn vs w _
    refine callsIn_wide.1 (callsIn_of_wp_marks (n:=0) hfn hb trivial (code_ok hΦ hm hints n (by simp) c (· < w.heap.size) (base0 M w) w none none 0 (fun _=>rfl) hI' (fun j v hj=>by cases hj) _ _ ?_ ?_ _ _ _ ⟨Fr.refl _ _,M,hst⟩ hv))
    . intro _ p q hp;cases hp
    . intro e st a w' hc hk
      have key:vres P fn.results.toList sp.multi sp.own sp.res st = .ret r->LeavesInM Fence.wide 0 P fn a.tmps (fun e w'=>∃ v,e = .returned v/\Below w.heap.size w w'/\ResOK M w w' sp.multi sp.own sp.res v r) a.defers .returning w':=by
        intro hk
        obtain ⟨hb',M',hg⟩:=hc
        refine leave (M0:=base0 M w) (F:=(· < w.heap.size)) (w0:=w) (st:=st) (by simp) (fun M2 w2 hg2 hf2=>?_) hdm a.defers M' w' hg hb'
        obtain ⟨r',h1,v,h2,h3,h4⟩:=vres_ok (fn:=fn) hg2 (by simp) hk
        cases h1
        refine ⟨v,h2,v,rfl,hf2.toBelow,M2,hg2.up,fun b o hM=>?_,h3,fun b h5 h6=>Nat.le_of_not_lt (h4 b h5 h6)⟩
        rcases Nat.lt_or_ge b w.heap.size with h5|h5
        . exact .inl (hg2.down b o h5 hM)
        . exact .inr ⟨h5,hg2.lt b o hM⟩
      cases e with
      | normal=>exact key hk
      | ret=>exact key hk
      | exit i=>cases hk
  | pan p =>
    obtain ⟨n,_,hv⟩:=h x (by rw [hx];simp)
    rw [hx] at hv
    show Calls P sp.fn vs w _
    refine callsIn_wide.1 (callsIn_of_wp_marks (n:=0) hfn hb trivial (code_ok hΦ hm hints n (by simp) c (· < w.heap.size) (base0 M w) w none none 0 (fun _=>rfl) hI' (fun j v hj=>by cases hj) _ _ ?_ ?_ _ _ _ ⟨Fr.refl _ _,M,hst⟩ hv))
    . intro _ p' q hp hq st a w' hc
      cases hp
      obtain ⟨hb',M',hg⟩:=hc
      exact leave (M0:=base0 M w) (F:=(· < w.heap.size)) (w0:=w) (st:=st) (R:=fun e w'=>(∃ q,Like p q/\e = .panicked [{ v:=q,recovered:=false }])/\Below w.heap.size w w') (mode:=.panicking [{ v:=q,recovered:=false }]) (by simp)
        (fun M2 w2 hg2 hf2=>⟨⟨q,hq,rfl⟩,hf2.toBelow⟩) hdm a.defers M' w' hg hb'
    . intro e st a w' hc hk
      obtain ⟨hb',M',hg⟩:=hc
      have key:vres P fn.results.toList sp.multi sp.own sp.res st ≠ .pan p:=by
        intro hk
        obtain ⟨r',h1,_⟩:=vres_ok (fn:=fn) hg (by simp) hk
        cases h1
      cases e with
      | normal=>exact absurd hk key
      | ret=>exact absurd hk key
      | exit i=>cases hk
end
end Go.V
namespace Go.V
inductive Pt where
  | at (n:Nat)
  | rg (e:Ty) (ys:List e.den) (st:St)
def bodyOf (f:Func):Code:=match f.body with|some c=>c|none=>.skip
section
variable {ρ : Type} (P : Program) (Φ : Nat → List Spec) (hints : List (Nat × List Nat)) (N : Nat)
def rounds (b:Code) (pl:Option (List Nat)) (k:X->St->Out ρ) (n:Nat) (st:St):Out ρ :=
  iter (fun k' s=>vexec P Φ hints N b pl k' s) (maskOf hints b) (fun s=>pinsOk pl (maskOf hints b s)) k n st
def rangeRounds (assign body:Code) (p:Nat) (e:Ty) (ys:List e.den) (st:St) (k:X->St->Out ρ) (s:St):Out ρ :=
  vrange (fun k' s=>vexec P Φ hints N assign (some (boxesOf 0 st)) (fun e s=>match e with | .normal=>vexec P Φ hints N body (some (boxesOf 0 st)) k' s|_=>.fail) s) p e st k ys s
def walkAt (fin:Code->Option (List Nat)->(X->St->Out ρ)->Out ρ):List Pt->Code->Option (List Nat)->(X->St->Out ρ)->Out ρ
  | [],c,pl,k=>fin c pl k
  | .at p :: ps,.seq a b,pl,k=>(match p with
    | 0=>walkAt fin ps a pl (fun e s=>match e with | .normal=>vexec P Φ hints N b pl k s|e=>k e s)
    | _=>walkAt fin ps b pl k)
  | .at p :: ps,.cond _ a b,pl,k=>(match p with|0=>walkAt fin ps a pl k|_=>walkAt fin ps b pl k)
  | .at _ :: ps,.block id b,pl,k=>walkAt fin ps b pl (fun e s=>match e with
      | .exit i=>if i=id then k .normal s else k (.exit i) s
      | e=>k e s)
  | .at n :: ps,.loop b,pl,k=>walkAt fin ps b pl (fun e s=>match e with | .normal=>vguard (pinsOk pl (maskOf hints b s)) (rounds P Φ hints N b pl k n (maskOf hints b s))|e=>k e s)
  | .at _ :: ps,.scope b,pl,k=>walkAt fin ps b pl k
  | .rg e ys st :: ps,.rangeFunc _ prs assign body,_,k=>(match prs.toList with
    | [p]=>walkAt fin ps body (some (boxesOf 0 st)) (fun x s'=>match x with
      | .normal=>rangeRounds P Φ hints N assign body p e ys st k (back st s')
      | x=>k x (back st s'))
    | _=>.fail)
  | _,_,_,_=>.fail
def kEnd (rs:List ResultVar) (multi own:Bool) (t:Ty):X->St->Out t.den:=fun e s=>match e with
    | .normal=>vres P rs multi own t s
    | .ret=>vres P rs multi own t s
    | _=>.fail
def vloop (f:Func) (multi own:Bool) (t:Ty) (path:List Pt) (n:Nat) (st:St):Out t.den :=
  walkAt P Φ hints N (fun c pl k=>match c with
    | .loop b=>rounds P Φ hints N b pl k n st
    | _=>.fail) path (bodyOf f) none (kEnd P f.results.toList multi own t)
def vfn (f:Func) (multi own:Bool) (a t:Ty) (x:a.den):Out t.den :=
  vbody P Φ hints N (bodyOf f) f.results.toList multi own t (st0 f.ntmps a x)
end
def phi (l:List Spec) (g:Nat):List Spec:=l.filter fun sp=>sp.fn==g
theorem phi_ok {P:Program} [Inv P] {l:List Spec} (h:∀ sp∈l,Contract P sp):∀ g sp,sp∈phi l g->Contract P sp :=
  fun _ sp hs=>h sp (List.mem_filter.1 hs).1
theorem contract_fn {P:Program} [Inv P] (hm:P.follows .mixedOrders=true) {l:List Spec} (hl:∀ sp∈l,Contract P sp) (sp:Spec) (hkind:sp.kind = .call) {f:Func} (hf:P.funcs[sp.fn]? = some f) (hb:f.body.isSome=true)
    (hints:List (Nat×List Nat)) (h:∀ x,sp.f x ≠ .fail->∃ n,vfn P (phi l) hints n f sp.multi sp.own sp.arg sp.res x=sp.f x):Contract P sp:=by
  obtain ⟨c,hc⟩:=Option.isSome_iff_exists.1 hb
  refine contract_of hm (phi_ok hl) hkind hf hc hints 0 fun x hx=>?_
  obtain ⟨n,hn⟩:=h x hx
  refine ⟨n,Nat.zero_le _,?_⟩
  unfold vfn bodyOf at hn
  rw [hc] at hn
  exact hn
theorem contract_at {P:Program} [Inv P] (hm:P.follows .mixedOrders=true) {l:List Spec} (hl:∀ sp∈l,Contract P sp) {fn:Nat} {arg res:Ty} {multi own:Bool} {F:arg.den->Out res.den} {f:Func}
    (hf:P.funcs[fn]? = some f) (hb:f.body.isSome=true) (hints:List (Nat×List Nat)) (h:∀ x,F x ≠ .fail->∃ n,vfn P (phi l) hints n f multi own arg res x=F x):Contract P ⟨fn,.call,arg,res,multi,own,F⟩ :=
  contract_fn hm hl ⟨fn,.call,arg,res,multi,own,F⟩ rfl hf hb hints h
theorem all_nil {P:Program} [Inv P]:∀ sp∈([]:List Spec),Contract P sp:=fun _ h=>absurd h List.not_mem_nil
theorem all_cons {P:Program} [Inv P] {s:Spec} {l:List Spec} (h:Contract P s) (hl:∀ sp∈l,Contract P sp):∀ sp∈s :: l,Contract P sp:=by
  intro sp hs
  rcases List.mem_cons.1 hs with rfl|hs
  . exact h
  . exact hl sp hs
@[irreducible] def fuel:Nat:=1099511627776
end Go.V
