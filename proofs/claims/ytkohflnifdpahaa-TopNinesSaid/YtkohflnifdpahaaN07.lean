/- A part of the proof of TopNinesSaid: no condition beyond what each theorem says. -/
import Derived.Test.YtkohflnifdpahaaN06
import Derived.RangeFuncOwn
set_option linter.all false
namespace Go.V
open Go.RowKit (Below)
section
variable {P : Program} [Inv P] {Φ : Nat → List Spec} {M0 : Base} {F : Nat → Prop} {w0 : World} {M : Mut} {st st' : St} {a : Act} {w : World} {o : Oper} {ρ : Type}
theorem slot_act {a':Act} (ha:∀ h,tm a' h=tm a h) {v:Value} {s:S} (h:SlotOK M w st a v s):SlotOK M w st a' v s:=by
  cases s with
  | al hm k t xs =>
    cases k with
    | none=>exact ⟨h.1,fun u ys hu=>(ha hm).trans (h.2 u ys hu)⟩
    | some k=>exact ⟨h.1,fun cs u ys b h1 h2 h3=>h.2 cs u ys b h1 h2 ((ha hm) ▸ h3)⟩
  | fa hm off =>
    obtain ⟨b,cs,e1,e2,e3⟩:=h
    exact ⟨b,cs,e1,(ha hm).trans e2,e3⟩
  | ar hm k t =>
    cases k with
    | none=>exact fun ys hu=>(ha hm).trans (h ys hu)
    | some k=>exact fun cs ys b h1 h2 h3=>h cs ys b h1 h2 ((ha hm) ▸ h3)
  | ea hm k t i =>
    cases k with
    | none=>intro ys hu;obtain ⟨g,e1,e2⟩:=h ys hu;exact ⟨g,by rw [ha hm];exact e1,e2⟩
    | some k=>exact fun cs ys b h1 h2 h3=>h cs ys b h1 h2 ((ha hm) ▸ h3)
  | _=>exact h
theorem owns_act {a':Act} (ha:∀ h,tm a' h=tm a h) {i:Nat} {k:Option Nat} {b:Nat} (h:owns st a' w i k b):owns st a w i k b:=by
  cases k with
  | none=>exact ⟨h.1,by rw [<- ha];exact h.2⟩
  | some k=>obtain ⟨cs,c0,c,v,e1,e2,e3,e4,e5⟩:=h;exact ⟨cs,c0,c,v,e1,e2,e3,by rw [<- ha];exact e4,e5⟩
theorem Good.act (h:Good M0 F M st a w) {a':Act} (ha:a'.tmps=a.tmps) (hd:Marks M0.dm w a'.defers):Good M0 F M st a' w:=by
  have ht:∀ h,tm a' h=tm a h:=fun h=>by unfold tm;rw [ha]
  exact ⟨hd,by rw [ha];exact h.size,h.room,h.base,h.up,h.lt,h.down,fun i=>by rw [ht];exact slot_act ht (h.slot i),fun i k j l b h1 h2=>h.one i k j l b (owns_act ht h1) (owns_act ht h2),
    fun i k b h1=>h.new i k b (owns_act ht h1),h.keep,fun j v hj=>by rw [ht];exact h.pin j v hj,h.dm⟩
theorem Good.rebase (h:Good M0 F M st a w) {N0:Base} {G:Nat->Prop} (h1:∀ b,G b->b<w.heap.size) (h2:∀ b o,N0.mu b o->G b) (h3:∀ b o,N0.mu b o->M b o) (h4:∀ b o,G b->M b o->N0.mu b o)
    (h5:∀ i k b,owns st a w i k b->¬ G b) (h6:Stable N0.ms N0.ws M w) (h7:∀ j v,N0.pin j=some v->tm a j=v/\isBox (get st j)=true) (h8:∀ D,N0.dm D):Good N0 G M st a w :=
  ⟨h.defers.imp fun D _=>h8 D,h.size,h1,h2,h3,h.lt,h4,h.slot,h.one,h5,h6,h7,fun D _=>h8 D⟩
def NoSit (st:St):Prop:=∀ j xs pos,get st j ≠ .sit xs pos
theorem owns_cells (h:Good M0 F M st a w) (hs:NoSit st) {i:Nat} {k:Option Nat} {b:Nat} (ho:owns st a w i k b):∃ ob:Obj,w.heap[b]? = some ob/\ob.isCells=true:=by
  have hsl:=h.slot i
  cases k with
  | none =>
    obtain ⟨h1,h2⟩:=ho
    cases e:get st i<;>rw [e] at h1 hsl<;>simp [ownS] at h1
    . rcases hsl.2 with ⟨e1,_⟩|⟨g,cap,cells,T,e1,e2,_⟩
      . rw [e1] at h2;simp [ownB] at h2
      . rw [e1] at h2;simp [ownB] at h2;subst h2;exact ⟨_,e2,rfl⟩
    . obtain ⟨b',T,cells,e1,e2,_⟩:=hsl
      rw [e1] at h2;simp [ownB] at h2;subst h2;exact ⟨_,e2,rfl⟩
    . rcases hsl with ⟨e1,_⟩|⟨g,cap,cells,T,e1,e2,_⟩
      . rw [e1] at h2;simp [ownB] at h2
      . rw [e1] at h2;simp [ownB] at h2;subst h2;exact ⟨_,e2,rfl⟩
    . exact absurd e (hs i _ _)
  | some k =>
    obtain ⟨cs,c0,c,v,e1,e2,e0,e3,e4,e5⟩:=ho
    rw [e1] at hsl
    obtain ⟨b',T,cells,f1,f2,f3,f4,f5⟩:=hsl
    rw [f1] at e3;simp [ownB] at e3;subst e3
    rw [cell_of_row w _ k cells T (0,0) f2] at e4
    have:=f5 k _ v e2 e4
    cases c0<;>simp [ownC] at e0
    . rcases this.2 with ⟨e1,_⟩|⟨g,cap,cells,T,e1,e2,_⟩
      . rw [e1] at e5;simp [ownB] at e5
      . rw [e1] at e5;simp [ownB] at e5;subst e5;exact ⟨_,e2,rfl⟩
    . rcases this with ⟨e1,_⟩|⟨g,cap,cells,T,e1,e2,_⟩
      . rw [e1] at e5;simp [ownB] at e5
      . rw [e1] at e5;simp [ownB] at e5;subst e5;exact ⟨_,e2,rfl⟩
theorem owns_mut (h:Good M0 F M st a w) (hs:NoSit st) {i:Nat} {k:Option Nat} {b:Nat} (ho:owns st a w i k b):∃ o,M b o:=by
  have hsl:=h.slot i
  cases k with
  | none =>
    obtain ⟨h1,h2⟩:=ho
    cases e:get st i<;>rw [e] at h1 hsl<;>simp [ownS] at h1
    . rcases hsl.2 with ⟨e1,_⟩|⟨g,cap,cells,T,e1,e2,e3,e4,e5,e6⟩
      . rw [e1] at h2;simp [ownB] at h2
      . rw [e1] at h2;simp [ownB] at h2;subst h2;exact ⟨_,e6 _ (Nat.le_refl _)⟩
    . obtain ⟨b',T,cells,e1,e2,e3,e4,_⟩:=hsl
      rw [e1] at h2;simp [ownB] at h2;subst h2;exact ⟨0,e4 0⟩
    . rcases hsl with ⟨e1,_⟩|⟨g,cap,cells,T,e1,e2,e3,e4,e5,e6,e7⟩
      . rw [e1] at h2;simp [ownB] at h2
      . rw [e1] at h2;simp [ownB] at h2;subst h2;exact ⟨0,e6 0⟩
    . exact absurd e (hs i _ _)
  | some k =>
    obtain ⟨cs,c0,c,v,e1,e2,e0,e3,e4,e5⟩:=ho
    rw [e1] at hsl
    obtain ⟨b',T,cells,f1,f2,f3,f4,f5⟩:=hsl
    rw [f1] at e3;simp [ownB] at e3;subst e3
    rw [cell_of_row w _ k cells T (0,0) f2] at e4
    have:=f5 k _ v e2 e4
    cases c0<;>simp [ownC] at e0
    . rcases this.2 with ⟨e1,_⟩|⟨g,cap,cells,T,e1,e2,e3,e4,e5',e6⟩
      . rw [e1] at e5;simp [ownB] at e5
      . rw [e1] at e5;simp [ownB] at e5;subst e5;exact ⟨_,e6 _ (Nat.le_refl _)⟩
    . rcases this with ⟨e1,_⟩|⟨g,cap,cells,T,e1,e2,e3,e4,e5',e6,e7⟩
      . rw [e1] at e5;simp [ownB] at e5
      . rw [e1] at e5;simp [ownB] at e5;subst e5;exact ⟨0,e6 0⟩
theorem stable_cells {w':World} (h:∀ (k:Nat) (ob:Obj),w.heap[k]? = some ob->ob.isCells=true->w'.heap[k]? = some ob):Stable M w M w':=fun b o v h1 h2=>by
  obtain ⟨ob,e1,e2⟩:=cells_of_cell h1
  refine ⟨?_,h2⟩
  have:=h b ob e1 e2
  rw [<- h1]
  exact World.cell?_of_block (a:=⟨b,o,none⟩) (by rw [this,e1])
theorem Good.cells (h:Good M0 F M st a w) (hs:NoSit st) {w':World} (hsz:w.heap.size<=w'.heap.size) (hk:∀ (k:Nat) (ob:Obj),w.heap[k]? = some ob->ob.isCells=true->w'.heap[k]? = some ob)
    (hd:Marks M0.dm w' a.defers):Good M0 F M st a w':=by
  have hst:Stable M w M w':=stable_cells hk
  have ho:∀ i k b,owns st a w i k b->w'.heap[b]? = w.heap[b]? := fun i k b ho=>by
    obtain ⟨ob,e1,e2⟩:=owns_cells h hs ho
    rw [hk b ob e1 e2,e1]
  have hk':∀ i b,owns st a w i none b->w'.heap[b]? = w.heap[b]? := fun i b h=>ho i none b h
  exact ⟨hd,h.size,fun b hb=>Nat.lt_of_lt_of_le (h.room b hb) hsz,h.base,h.up,fun b o hm=>Nat.lt_of_lt_of_le (h.lt b o hm) hsz,h.down,
    fun i=>SlotOK.keep hst (turn_world hk') rfl rfl (h.slot i) fun k b hb=>⟨ho i k b hb,fun _ h=>h⟩,
    fun i k j l b h1 h2=>h.one i k j l b (owns_world hk' h1) (owns_world hk' h2),fun i k b h1=>h.new i k b (owns_world hk' h1),h.keep.trans hst,h.pin,h.dm⟩
theorem get_backF (s:St):∀ (st:St) (i j:Nat),j<st.length->get (backF i st s) j=backS (get st j) (get s (i+j))
  | [],_,_,h=>by simp at h
  | x :: st,i,0,_=>by simp [backF,get]
  | x :: st,i,j+1,h=>by
    have:=get_backF s st (i+1) j (by simpa using h)
    rw [show i+1+j=i+(j+1) by omega] at this
    simpa [backF,get] using this
theorem length_backF (s:St):∀ (st:St) (i:Nat),(backF i st s).length=st.length
  | [],_=>rfl
  | x :: st,i=>by simp [backF,length_backF s st (i+1)]
theorem mem_boxesOf:∀ (st:St) (i j:Nat),isBox (get st j)=true->i+j∈boxesOf i st
  | [],i,j,h=>by simp [get,isBox] at h
  | s :: st,i,0,h=>by
    have:isBox s=true:=by simpa [get] using h
    unfold boxesOf
    rw [this];simp
  | s :: st,i,j+1,h=>by
    have:=mem_boxesOf st (i+1) j (by simpa [get] using h)
    rw [show i+1+j=i+(j+1) by omega] at this
    unfold boxesOf
    split
    . exact List.mem_cons_of_mem _ this
    . exact this
def Quiet (st:St):Prop:=∀ j,isBox (get st j)=true\/(ownS (get st j)=false/\∀ (M:Mut) (w:World) (st1 st2:St) (a1 a2:Act) v,SlotOK M w st1 a1 v (get st j)->SlotOK M w st2 a2 v (get st j))
theorem quiet_rng (st:St):Quiet (st.map rngS):=by
  intro j
  have e:get (st.map rngS) j=rngS (get st j):=by
    unfold get
    rw [List.getD_eq_getElem?_getD,List.getD_eq_getElem?_getD,List.getElem?_map]
    cases st[j]? <;> rfl
  rw [e]
  cases get st j<;>first|exact .inl rfl|exact .inr ⟨rfl,fun _ _ _ _ _ _ _ h=>h⟩
theorem slot_stable {M':Mut} {w':World} (hs:Stable M w M' w') {v:Value} {s:S} (hq:ownS s=false) (hq2:∀ (M:Mut) (w:World) (st1 st2:St) (a1 a2:Act) v,SlotOK M w st1 a1 v s->SlotOK M w st2 a2 v s)
    (h:SlotOK M w st a v s):SlotOK M' w' [] ⟨#[],[]⟩ v s:=by
  have h':=hq2 M w st [] a ⟨#[],[]⟩ v h
  refine SlotOK.keep (st:=[s]) (a:=⟨#[v],[]⟩) (st':=[]) (a':=⟨#[],[]⟩) (i:=0) hs ?_ rfl rfl (hq2 M w [] [s] ⟨#[],[]⟩ ⟨#[v],[]⟩ v h') ?_
  . refine ⟨fun h u ys e=>by simp [get] at e,fun h cs k u ys e=>by simp [get] at e,fun h u ys e=>by simp [get] at e,fun h cs k u ys e=>by simp [get] at e,fun h cs e=>?_⟩
    cases h with
    | zero =>
      have:s = .box cs:=by simpa [get] using e
      rw [this] at hq;cases hq
    | succ h=>simp [get] at e
  . intro k b ho
    cases k with
    | none=>have:=ho.1;simp only [get,List.getD_cons_zero] at this;rw [hq] at this;cases this
    | some k =>
      obtain ⟨cs,_,_,_,e,_⟩:=ho
      have:s = .box cs:=by simpa [get] using e
      rw [this] at hq;cases hq
theorem Good.backed {N0:Base} {G:Nat->Prop} {M1 M2:Mut} {st1 s s':St} {a0 a':Act} {w1 w2:World} (hq:Quiet st1) (h1:Good M0 F M1 s a0 w1) (hsl:s.length=st1.length) (hsh:∀ j,isBox (get st1 j)=false->get s j=get st1 j)
    (h2:Good N0 G M2 s' a' w2) (hst:Stable M1 w1 M2 w2) (hpin:∀ j,isBox (get st1 j)=true->tm a' j=tm a0 j) (hd:Marks M0.dm w2 a0.defers)
    (e1:∀ b,F b->b<w2.heap.size) (e2:∀ b o,M0.mu b o->M2 b o) (e3:∀ b o,F b->M2 b o->M0.mu b o) (e4:∀ i k b,owns s' a' w2 i k b->¬ F b) (hp:∀ j,M0.pin j=none) (hk:Stable M0.ms M0.ws M1 w1) :
    Good M0 F M2 (back st1 s') a0 w2:=by
  have hlen:(back st1 s').length=st1.length:=length_backF s' st1 0
  have hget:∀ j,get (back st1 s') j=backS (get st1 j) (get s' j):=by
    intro j
    rcases Nat.lt_or_ge j st1.length with hj|hj
    . have:=get_backF s' st1 0 j hj
      rwa [Nat.zero_add] at this
    . rw [get_oob (by rw [hlen];exact hj),get_oob (st:=st1) hj];rfl
  have howns:∀ j k b,owns (back st1 s') a0 w2 j k b->owns s' a' w2 j k b:=by
    intro j k b ho
    rcases hq j with hb|⟨hno,_⟩
    . have ht:=hpin j hb
      have e:get (back st1 s') j=backS (get st1 j) (get s' j):=hget j
      cases hs1:get st1 j<;>rw [hs1] at hb e<;>simp [isBox] at hb
      cases hs':get s' j with
      | box cs =>
        rw [hs'] at e
        have e:get (back st1 s') j = .box (cs.map dropC):=e
        cases k with
        | none=>exact ⟨by rw [hs'];rfl,by rw [ht];exact ho.2⟩
        | some k =>
          obtain ⟨ds,c0,c,v,f1,f2,f0,f3,f4,f5⟩:=ho
          rw [e] at f1
          cases f1
          rw [List.getElem?_map] at f2
          cases hk:cs[k]? with
          | none=>rw [hk] at f2;cases f2
          | some c1 =>
            rw [hk] at f2
            cases f2
            exact ⟨cs,c1,c,v,hs',hk,ownC_drop f0,by rw [ht];exact f3,f4,f5⟩
      | _ =>
        rw [hs'] at e
        have e:get (back st1 s') j = .und:=e
        cases k with
        | none=>have:=ho.1;rw [e] at this;cases this
        | some k=>obtain ⟨ds,c0,c,v,f1,_⟩:=ho;rw [e] at f1;cases f1
    . have e:get (back st1 s') j=get st1 j:=by
        rw [hget]
        cases hs1:get st1 j<;>rw [hs1] at hno<;>first|rfl|(simp [ownS] at hno)
      cases k with
      | none=>have:=ho.1;rw [e,hno] at this;cases this
      | some k=>obtain ⟨ds,c0,c,v,f1,_⟩:=ho;rw [e] at f1;rw [f1] at hno;cases hno
  refine ⟨hd,by rw [h1.size,hsl,hlen],e1,h1.base,e2,h2.lt,e3,fun j=>?_,fun i k j l b g1 g2=>h2.one i k j l b (howns _ _ _ g1) (howns _ _ _ g2),fun i k b g1=>e4 i k b (howns _ _ _ g1),hk.trans hst,(fun j v hj=>by rw [hp j] at hj;cases hj),h1.dm⟩
  rcases hq j with hb|⟨hno,hq2⟩
  . have ht:=hpin j hb
    rw [hget]
    cases hs1:get st1 j<;>rw [hs1] at hb<;>simp [isBox] at hb
    have hs:=h2.slot j
    cases hs':get s' j with
    | box cs =>
      rw [hs',ht] at hs
      exact slot_drop (st':=s') hs
    | _=>trivial
  . have e:get (back st1 s') j=get st1 j:=by
      rw [hget]
      cases hs1:get st1 j<;>rw [hs1] at hno<;>first|rfl|(simp [ownS] at hno)
    rw [e]
    have hnb:isBox (get st1 j)=false:=by cases hs1:get st1 j<;>rw [hs1] at hno<;>first|rfl|(simp [ownS] at hno)
    have hs:=h1.slot j
    rw [hsh j hnb] at hs
    exact hq2 _ _ _ _ _ _ _ (slot_stable hst hno hq2 hs)
theorem quiet_nosit {st1 s:St} (hq:Quiet st1) (hsh:∀ j,isBox (get st1 j)=false->get s j=get st1 j) (hsb:∀ j,isBox (get st1 j)=true->isBox (get s j)=true):NoSit s:=by
  intro j xs pos e
  rcases hq j with hb|⟨hno,_⟩
  . have:=hsb j hb;rw [e] at this;cases this
  . have hnb:isBox (get st1 j)=false:=by cases hs1:get st1 j<;>rw [hs1] at hno<;>first|rfl|(simp [ownS] at hno)
    rw [hsh j hnb] at e
    rw [e] at hno;cases hno
theorem findIter_ok {s:S}:∀ {l:List Spec} {y:(sp:Spec)×sp.arg.den},findIter s l=some y->y.1∈l/\y.1.kind = .iter/\s.as y.1.arg=some y.2
  | [],_,h=>by simp [findIter] at h
  | sp :: l,y,h=>by
    unfold findIter at h
    split at h
    . rename_i hk
      split at h
      . rename_i x hx
        cases h
        exact ⟨by simp,hk,hx⟩
      . obtain ⟨h1,h2⟩:=findIter_ok h
        exact ⟨by simp [h1],h2⟩
    . obtain ⟨h1,h2⟩:=findIter_ok h
      exact ⟨by simp [h1],h2⟩
end
end Go.V
