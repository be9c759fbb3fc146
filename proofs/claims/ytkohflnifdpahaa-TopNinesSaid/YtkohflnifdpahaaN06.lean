/- A part of the proof of TopNinesSaid: no condition beyond what each theorem says. -/
import Derived.Test.YtkohflnifdpahaaN05
import Derived.LoopN
import Derived.Scope
set_option linter.all false
namespace Go.V
open Go.RowKit (Below)
def X.exit':X->Exit
  | .normal=>.normal
  | .exit i=>.exit i
  | .ret=>.ret
section
variable {P : Program} [Inv P] {Φ : Nat → List Spec} {M0 : Base} {F : Nat → Prop} {w0 : World} {M : Mut} {st st' : St} {a : Act} {w : World} {o : Oper} {ρ : Type}
theorem slot_drop {v:Value} {s:S} (h:SlotOK M w st a v s):SlotOK M w st' a v (dropS s):=by
  cases s with
  | und=>trivial
  | nil=>exact h
  | d t x=>exact h
  | own t xs b=>exact h
  | al hm k t xs=>cases k<;>exact repV_list h.1
  | ref t x=>exact h
  | box cs =>
    obtain ⟨b,T,cells,e1,e2,e3,e4,e5⟩:=h
    refine ⟨b,T,cells,e1,e2,by simp [e3],e4,fun k c u hc hu=>?_⟩
    rw [List.getElem?_map] at hc
    cases hk:cs[k]? with
    | none=>rw [hk] at hc;cases hc
    | some c0 =>
      rw [hk] at hc
      cases hc
      have:=e5 k c0 u hk hu
      cases c0<;>exact this
  | fa hm off=>trivial
  | tup t x=>exact h
  | arr t xs b=>exact h
  | ar hm k t=>trivial
  | ea hm k t i=>trivial
  | sit xs pos=>exact h
  | nxt b p c=>exact h
theorem slot_dem {v:Value} {s:S} (h:SlotOK M w st a v s):SlotOK M w st' a v (demS s):=by
  cases s with
  | und=>trivial
  | nil=>exact h
  | d t x=>exact h
  | own t xs b=>exact repV_list h.1
  | al hm k t xs=>cases k<;>exact repV_list h.1
  | ref t x=>exact h
  | box cs =>
    obtain ⟨b,T,cells,e1,e2,e3,e4,e5⟩:=h
    refine ⟨b,T,cells,e1,e2,by simp [e3],e4,fun k c u hc hu=>?_⟩
    rw [List.getElem?_map] at hc
    cases hk:cs[k]? with
    | none=>rw [hk] at hc;cases hc
    | some c0 =>
      rw [hk] at hc
      cases hc
      have:=e5 k c0 u hk hu
      cases c0 with
      | und=>exact this
      | d t x=>exact this
      | own t xs b=>exact this.1
      | arr t xs b=>trivial
  | fa hm off=>trivial
  | tup t x=>exact h
  | arr t xs b=>trivial
  | ar hm k t=>trivial
  | ea hm k t i=>trivial
  | sit xs pos=>trivial
  | nxt b p c=>exact h
theorem ownS_drop {s:S} (h:ownS (dropS s)=true):ownS s=true:=by cases s<;>simp [dropS,ownS] at h ⊢
theorem ownS_dem {s:S} (h:ownS (demS s)=true):ownS s=true:=by cases s<;>simp [demS,ownS] at h ⊢
theorem ownC_drop {c:C} (h:ownC (dropC c)=true):ownC c=true:=by cases c<;>simp [dropC,ownC] at h ⊢
theorem ownC_dem {c:C} (h:ownC (demC c)=true):ownC c=true:=by cases c<;>simp [demC,ownC] at h ⊢
theorem Good.mask (h:Good M0 F M st a w) (hl:st'.length=st.length) (hm:∀ i,get st' i = .und\/get st' i=dropS (get st i)\/get st' i=demS (get st i)) (hpin:∀ j v,M0.pin j=some v->isBox (get st' j)=true):Good M0 F M st' a w:=by
  have howns:∀ i k b,owns st' a w i k b->owns st a w i k b:=by
    intro i k b ho
    cases k with
    | none =>
      obtain ⟨h1,h2⟩:=ho
      refine ⟨?_,h2⟩
      rcases hm i with e'|e'|e'
      . rw [e'] at h1;cases h1
      . rw [e'] at h1;exact ownS_drop h1
      . rw [e'] at h1;exact ownS_dem h1
    | some k =>
      obtain ⟨cs,c1,c,v,e1,e2,e0,e3⟩:=ho
      rcases hm i with e'|e'|e'
      . rw [e'] at e1;cases e1
      . rw [e'] at e1
        cases hs:get st i<;>rw [hs] at e1<;>simp [dropS] at e1
        rename_i cs0
        subst e1
        rw [List.getElem?_map] at e2
        cases hk:cs0[k]? with
        | none=>rw [hk] at e2;cases e2
        | some c0 =>
          rw [hk] at e2
          cases e2
          exact ⟨cs0,c0,c,v,hs,hk,ownC_drop e0,e3⟩
      . rw [e'] at e1
        cases hs:get st i<;>rw [hs] at e1<;>simp [demS] at e1
        rename_i cs0
        subst e1
        rw [List.getElem?_map] at e2
        cases hk:cs0[k]? with
        | none=>rw [hk] at e2;cases e2
        | some c0 =>
          rw [hk] at e2
          cases e2
          exact ⟨cs0,c0,c,v,hs,hk,ownC_dem e0,e3⟩
  refine ⟨h.defers,by rw [h.size,hl],h.room,h.base,h.up,h.lt,h.down,fun i=>?_,fun i k j l b h1 h2=>h.one i k j l b (howns _ _ _ h1) (howns _ _ _ h2),fun i k b h1=>h.new i k b (howns _ _ _ h1),h.keep,fun j v hj=>⟨(h.pin j v hj).1,hpin j v hj⟩,h.dm⟩
  rcases hm i with e|e|e
  . rw [e];trivial
  . rw [e];exact slot_drop (h.slot i)
  . rw [e];exact slot_dem (h.slot i)
theorem Conc.mask (h:Conc F M0 w0 st a w) (hl:st'.length=st.length) (hm:∀ i,get st' i = .und\/get st' i=dropS (get st i)\/get st' i=demS (get st i)) (hpin:∀ j v,M0.pin j=some v->isBox (get st' j)=true):Conc F M0 w0 st' a w:=by
  obtain ⟨hb,M,hg⟩:=h
  exact ⟨hb,M,hg.mask hl hm hpin⟩
theorem get_map (st:St) (i:Nat):get (st.map dropS) i=dropS (get st i):=by
  unfold get
  rw [List.getD_eq_getElem?_getD,List.getD_eq_getElem?_getD,List.getElem?_map]
  cases st[i]? <;> rfl
theorem isBox_drop (s:S):isBox (dropS s)=isBox s:=by cases s<;>rfl
theorem Conc.drop (h:Conc F M0 w0 st a w):Conc F M0 w0 (st.map dropS) a w:=h.mask (by simp) (fun i=>.inr (.inl (get_map st i))) fun j v hj=>by
  rw [get_map,isBox_drop]
  obtain ⟨_,M,hg⟩:=h
  exact (hg.pin j v hj).2
theorem keep_length (l d:List Nat):∀ (i:Nat) (st:St),(keep l d i st).length=st.length
  | _,[]=>rfl
  | i,s :: st=>by simp [keep,keep_length l d (i+1) st]
theorem keep_get (l d:List Nat):∀ (b:Nat) (st:St) (i:Nat),get (keep l d b st) i = .und\/get (keep l d b st) i=dropS (get st i)\/get (keep l d b st) i=demS (get st i)
  | _,[],_=>.inl rfl
  | b,s :: st,0=>by
    simp only [keep,get,List.getD_cons_zero]
    split
    . split
      . exact .inr (.inr rfl)
      . exact .inr (.inl rfl)
    . exact .inl rfl
  | b,s :: st,i+1=>by
    have:=keep_get l d (b+1) st i
    simpa only [keep,get,List.getD_cons_succ] using this
theorem Conc.maskOf (h:Conc F M0 w0 st a w) {hints:List (Nat×List Nat)} {b:Code} (hpin:∀ j v,M0.pin j=some v->isBox (get (maskOf hints b st) j)=true):Conc F M0 w0 (maskOf hints b st) a w:=by
  have h1:(Go.V.maskOf hints b st).length=st.length:=by
    unfold Go.V.maskOf
    split
    . exact keep_length _ _ _ _
    . simp
  have h2:∀ i,get (Go.V.maskOf hints b st) i = .und\/get (Go.V.maskOf hints b st) i=dropS (get st i)\/get (Go.V.maskOf hints b st) i=demS (get st i):=by
    unfold Go.V.maskOf
    split
    . exact keep_get _ _ 0 st
    . exact fun i=>.inr (.inl (get_map st i))
  exact h.mask h1 h2 hpin
theorem put_same {i:Nat} (hi:i<a.tmps.size):a.put (some i) (tm a i)=a:=by
  obtain ⟨tmps,defers⟩:=a
  simp only [Act.put,tm]
  congr 1
  have hlt:i<tmps.size:=hi
  rw [Array.getD_eq_getD_getElem?,Array.getElem?_eq_getElem hlt,Option.getD_some]
  apply Array.ext'
  rw [Array.toList_setIfInBounds]
  apply List.ext_getElem?
  intro j
  by_cases hj:j=i
  . subst hj
    rw [List.getElem?_set_self (by simpa using hlt)]
    simp [hlt]
  . rw [List.getElem?_set_ne (Ne.symm hj)]
theorem Good.frz1 (h:Good M0 F M st a w) {i:Nat} {t:Ty} {xs:List t.den} {hh:Bool} (hg:get st i = .arr t xs hh):∃ M',Good M0 F M' (st.set i (.own t xs true)) a w:=by
  have hi:i<st.length:=by
    rcases Nat.lt_or_ge i st.length with h'|h'
    . exact h'
    . rw [get_oob h'] at hg;cases hg
  obtain ⟨h1,h2⟩:=h.forget hg
  have hs:=h.slot i
  rw [hg] at hs
  have key:∀ M',Good M0 F M' (st.set i .und) a w->RepC M' w (.list t) [tm a i] xs->OwnAt M' w t.size (tm a i) xs.length->(∀ b,ownB (tm a i)=some b->¬ F b/\∀ j l,¬ owns (st.set i .und) a w j l b)->Good M0 F M' (st.set i (.own t xs true)) a w:=by
    intro M' g1 g2 g3 g4
    have:=g1.put_own (d:=i) (by simpa using hi) (fun cs e=>by rw [get_set st i i _ hi,if_pos rfl] at e;cases e) g2 g3 g4
    rw [put_same (by rw [h.size];exact hi),List.set_set] at this
    exact this
  cases hob:ownB (tm a i) with
  | none =>
    have hnil:tm a i = .slice none 0 0/\xs=[]:=by
      rcases hs with h'|⟨g,cap,cells,T,e1,_⟩
      . exact h'
      . rw [e1] at hob;simp [ownB] at hob
    obtain ⟨e1,e2⟩:=hnil
    subst e2
    exact ⟨M,key M h1 (by rw [e1];exact RepC.list_nil t) (.inl ⟨e1,rfl⟩) (by rw [e1];simp [ownB])⟩
  | some g =>
    obtain ⟨hge,hno⟩:=h2 g hob
    obtain ⟨k1,k2⟩:=arr_own hs (M':=fun b o=>M b o/\¬ (b=g/\o<xs.length * t.size)) (fun g' hg' b o=>by rw [hob] at hg';cases hg';exact Iff.rfl) (fun b o v h1 h2=>⟨h1,fun h3=>h2 h3.1⟩)
    exact ⟨_,key _ (h1.freeze (n:=xs.length * t.size) hge hno) k1 k2 fun b hbb=>by rw [hob] at hbb;cases hbb;exact ⟨hge,hno⟩⟩
theorem Good.cellC (h:Good M0 F M st a w) {i k:Nat} {cs:List C} {c':C} (hg:get st i = .box cs) (hkl:k<cs.length) (hn:ownC c'=false)
    (hr:∀ c v,ownB (tm a i)=some c->w.cell? ⟨c,k,none⟩=some v->CellOK M w v c') :
    Good M0 F M (st.set i (.box (cs.set k c'))) a w/\∀ j l b,owns (st.set i (.box (cs.set k c'))) a w j l b->owns st a w j l b/\¬ (j=i/\l=some k):=by
  have hi:i<st.length:=by
    rcases Nat.lt_or_ge i st.length with h'|h'
    . exact h'
    . rw [get_oob h'] at hg;cases hg
  have hset:∀ j,get (st.set i (.box (cs.set k c'))) j=if j=i then .box (cs.set k c') else get st j:=fun j=>get_set st i j _ hi
  have hcs:∀ (l:Nat) c0,ownC c0=true->(cs.set k c')[l]? = some c0->cs[l]? = some c0/\l≠k:=by
    intro l c0 h0 e
    by_cases hl:l=k
    . subst hl;rw [List.getElem?_set_self hkl] at e;cases e;rw [hn] at h0;cases h0
    . rw [List.getElem?_set_ne (Ne.symm hl)] at e;exact ⟨e,hl⟩
  have howns:∀ j l b,owns (st.set i (.box (cs.set k c'))) a w j l b->owns st a w j l b/\¬ (j=i/\l=some k):=by
    intro j l b ho
    by_cases hj:j=i
    . subst hj
      cases l with
      | none=>exact ⟨⟨by rw [hg];rfl,ho.2⟩,fun e=>by cases e.2⟩
      | some l =>
        obtain ⟨cs',c0,c,v,e1,e2,e0,e3,e4,e5⟩:=ho
        rw [hset,if_pos rfl] at e1
        cases e1
        obtain ⟨f1,f2⟩:=hcs l c0 e0 e2
        exact ⟨⟨cs,c0,c,v,hg,f1,e0,e3,e4,e5⟩,fun e=>f2 (by simpa using e.2)⟩
    . refine ⟨?_,fun e=>hj e.1⟩
      cases l with
      | none=>simpa only [owns,hset,if_neg hj] using ho
      | some l=>simpa only [owns,hset,if_neg hj] using ho
  refine ⟨h.less (by simp) (turn_st ?_ ?_ ?_ ?_ ?_) ?_ fun j k b ho=>(howns j k b ho).1,howns⟩
  . intro h' u ys e
    rw [hset] at e;split at e
    . cases e
    . exact e
  . intro h' cs' l u ys e1 e2
    rw [hset] at e1;split at e1
    . rename_i e;subst e;cases e1
      exact ⟨cs,hg,(hcs l _ rfl e2).1⟩
    . exact ⟨cs',e1,e2⟩
  . intro h' u ys e
    rw [hset] at e;split at e
    . cases e
    . exact ⟨ys,e⟩
  . intro h' cs' l u ys e1 e2
    rw [hset] at e1;split at e1
    . rename_i e;subst e;cases e1
      exact ⟨cs,ys,hg,(hcs l _ rfl e2).1⟩
    . exact ⟨cs',ys,e1,e2⟩
  . intro h' cs' e
    rw [hset];split
    . exact ⟨_,rfl⟩
    . exact ⟨cs',e⟩
  . intro j hne
    rw [hset] at hne ⊢
    by_cases hj:j=i
    . subst hj
      rw [if_pos rfl]
      have hs:=h.slot j
      rw [hg] at hs
      obtain ⟨b,T,cells,e1,e2,e3,e4,e5⟩:=hs
      refine ⟨b,T,cells,e1,e2,by simpa using e3,e4,fun l c u hl hu=>?_⟩
      by_cases hlk:l=k
      . subst hlk
        rw [List.getElem?_set_self hkl] at hl
        cases hl
        exact hr b u (by rw [e1];rfl) (by rw [cell_of_row w b l cells T (0,0) e2];exact hu)
      . rw [List.getElem?_set_ne (Ne.symm hlk)] at hl
        exact e5 l c u hl hu
    . rw [if_neg hj] at hne;exact absurd rfl hne
theorem Good.frzCell (h:Good M0 F M st a w) {i k:Nat} {cs:List C} {t:Ty} {xs:List t.den} {hh:Bool} (hg:get st i = .box cs) (hc:cs[k]? = some (.arr t xs hh)) :
    ∃ M',Good M0 F M' (st.set i (.box (cs.set k (.d (.list t) xs)))) a w:=by
  have hkl:k<cs.length:=(List.getElem?_eq_some_iff.1 hc).1
  have hi:i<st.length:=by
    rcases Nat.lt_or_ge i st.length with h'|h'
    . exact h'
    . rw [get_oob h'] at hg;cases hg
  obtain ⟨h1,h2⟩:=h.cellC (c' := .und) hg hkl rfl fun _ _ _ _=>trivial
  have hs:=h.slot i
  rw [hg] at hs
  obtain ⟨b,T,cells,e1,e2,e3,e4,e5⟩:=hs
  obtain ⟨v,hv⟩:∃ v,cells[k]? = some v:=⟨cells[k]'(by rw [e3];exact hkl),by rw [Array.getElem?_eq_getElem]⟩
  have harr:ArrAt M w t v xs:=e5 k _ v hc hv
  have hcell:w.cell? ⟨b,k,none⟩=some v:=by rw [cell_of_row w b k cells T (0,0) e2];exact hv
  have hset1:get (st.set i (.box (cs.set k .und))) i = .box (cs.set k .und):=by rw [get_set st i i _ hi,if_pos rfl]
  have fin:∀ M',Good M0 F M' (st.set i (.box (cs.set k .und))) a w->RepC M' w (.list t) [v] xs->Good M0 F M' (st.set i (.box (cs.set k (.d (.list t) xs)))) a w:=by
    intro M' g1 g2
    have:=(g1.cellC (k:=k) (c' := .d (.list t) xs) hset1 (by simpa using hkl) rfl fun c u hcb hcu=>by
      rw [e1] at hcb;simp [ownB] at hcb;subst hcb
      rw [hcell] at hcu;cases hcu;exact g2).1
    rwa [List.set_set,List.set_set] at this
  cases hob:ownB v with
  | none =>
    have hnil:v = .slice none 0 0/\xs=[]:=by
      rcases harr with h'|⟨g,cap,cells,T,e1,_⟩
      . exact h'
      . rw [e1] at hob;simp [ownB] at hob
    obtain ⟨rfl,rfl⟩:=hnil
    exact ⟨M,fin M h1 (RepC.list_nil t)⟩
  | some g =>
    have hown:owns st a w i (some k) g:=⟨cs,_,b,v,hg,hc,rfl,by rw [e1];rfl,hcell,hob⟩
    have hge:=h.new i (some k) g hown
    have hno:∀ j l,¬ owns (st.set i (.box (cs.set k .und))) a w j l g:=fun j l ho=>by
      obtain ⟨f1,f2⟩:=h2 j l g ho
      exact f2 (h.one j l i (some k) g f1 hown)
    obtain ⟨k1,_⟩:=arr_own harr (M':=fun b o=>M b o/\¬ (b=g/\o<xs.length * t.size)) (fun g' hg' b o=>by rw [hob] at hg';cases hg';exact Iff.rfl) (fun b o v h1 h2=>⟨h1,fun h3=>h2 h3.1⟩)
    exact ⟨_,fin _ (h1.freeze (n:=xs.length * t.size) hge hno) k1⟩
theorem Good.frzCells (h:Good M0 F M st a w) {i:Nat} {cs:List C} (hg:get st i = .box cs):∀ n,∃ M',Good M0 F M' (st.set i (.box ((cs.take n).map frzC++cs.drop n))) a w
  | 0=>by
    refine ⟨M,?_⟩
    have:st.set i (.box ((cs.take 0).map frzC++cs.drop 0))=st:=set_self (by simpa using hg) (by simp)
    rw [this];exact h
  | n+1=>by
    obtain ⟨M',h'⟩:=Good.frzCells h hg n
    have hi:i<st.length:=by
      rcases Nat.lt_or_ge i st.length with h'|h'
      . exact h'
      . rw [get_oob h'] at hg;cases hg
    rcases Nat.lt_or_ge n cs.length with hn|hn
    rotate_left
    . have e:(cs.take (n+1)).map frzC++cs.drop (n+1)=(cs.take n).map frzC++cs.drop n:=by
        rw [List.take_of_length_le (by omega),List.take_of_length_le hn,List.drop_eq_nil_of_le (by omega),List.drop_eq_nil_of_le hn]
      rw [e];exact ⟨M',h'⟩
    . have hd:cs.drop n=cs[n] :: cs.drop (n+1):=List.drop_eq_getElem_cons hn
      have ht:cs.take (n+1)=cs.take n++[cs[n]]:=by rw [List.take_succ_eq_append_getElem hn]
      have hlen:((cs.take n).map frzC).length=n:=by simp;omega
      have e:(cs.take (n+1)).map frzC++cs.drop (n+1)=((cs.take n).map frzC++cs.drop n).set n (frzC cs[n]):=by
        rw [ht,List.set_append_right _ _ (by omega),hlen,Nat.sub_self,hd,List.map_append,List.append_assoc]
        rfl
      rw [e]
      have hget:get (st.set i (.box ((cs.take n).map frzC++cs.drop n))) i = .box ((cs.take n).map frzC++cs.drop n):=by rw [get_set st i i _ hi,if_pos rfl]
      have hk:((cs.take n).map frzC++cs.drop n)[n]? = some cs[n]:=by
        rw [List.getElem?_append_right (by omega),hlen,Nat.sub_self,hd];rfl
      cases hc:cs[n] with
      | arr t xs hh =>
        rw [hc] at hk
        obtain ⟨M'',h''⟩:=h'.frzCell hget hk
        rw [List.set_set] at h''
        exact ⟨M'',h''⟩
      | _ =>
        rw [hc] at hk
        refine ⟨M',?_⟩
        have:((cs.take n).map frzC++cs.drop n).set n (frzC cs[n])=(cs.take n).map frzC++cs.drop n:=by
          apply List.ext_getElem?
          intro j
          by_cases hj:j=n
          . subst hj
            rw [List.getElem?_set_self (by rw [List.length_append,hlen,List.length_drop];omega),hk,hc];rfl
          . rw [List.getElem?_set_ne (Ne.symm hj)]
        rw [hc] at this
        rw [this];exact h'
theorem Good.frzS1 (h:Good M0 F M st a w) (i:Nat):∃ M',Good M0 F M' (st.set i (frzS (get st i))) a w:=by
  cases e:get st i with
  | arr t xs hh=>exact h.frz1 e
  | box cs =>
    obtain ⟨M',h'⟩:=h.frzCells e cs.length
    rw [List.take_of_length_le (Nat.le_refl _),List.drop_eq_nil_of_le (Nat.le_refl _),List.append_nil] at h'
    exact ⟨M',h'⟩
  | und =>
    refine ⟨M,?_⟩
    have:st.set i (frzS .und)=st:=by
      apply List.ext_getElem?
      intro j
      by_cases hj:j=i
      . subst hj
        rcases Nat.lt_or_ge j st.length with hlt|hge
        . rw [List.getElem?_set_self hlt]
          unfold get at e
          rw [List.getD_eq_getElem?_getD,List.getElem?_eq_getElem hlt] at e
          rw [List.getElem?_eq_getElem hlt]
          simp only [Option.getD_some] at e
          rw [e];rfl
        . rw [List.getElem?_eq_none (by simpa using hge),List.getElem?_eq_none hge]
      . rw [List.getElem?_set_ne (Ne.symm hj)]
    rw [this];exact h
  | _ =>
    refine ⟨M,?_⟩
    rw [show ∀ s,frzS s=s->st.set i (frzS s)=st.set i s from fun s hs=>by rw [hs]]
    . rw [set_self e (by simp)];exact h
    . rfl
theorem Conc.frzAll:∀ (l:List Nat) (st:St),Conc F M0 w0 st a w->Conc F M0 w0 (frzAll l st) a w
  | [],_,h=>h
  | i :: l,st,⟨hb,M,hg⟩=>by
    obtain ⟨M',h'⟩:=hg.frzS1 i
    exact Conc.frzAll l _ ⟨hb,M',h'⟩
theorem Good.frzB1 (h:Good M0 F M st a w) (hno:∀ j hm off,get st j ≠ .fa hm off) {i:Nat} {cs:List C} {t:Ty} {x:t.den} (hpi:M0.pin i=none) (hg:get st i = .box cs) (hx:gath t cs=some (x,[])) :
    ∃ M',Good M0 F M' (st.set i (.ref t x)) a w:=by
  have hi:i<st.length:=by
    rcases Nat.lt_or_ge i st.length with h'|h'
    . exact h'
    . rw [get_oob h'] at hg;cases hg
  have hset:∀ j,get (st.set i .und) j=if j=i then .und else get st j:=fun j=>get_set st i j _ hi
  have howns:∀ j k b,owns (st.set i .und) a w j k b->owns st a w j k b/\j≠i:=by
    intro j k b ho
    by_cases hj:j=i
    . subst hj
      exfalso
      cases k with
      | none=>have e:=ho.1;rw [hset,if_pos rfl] at e;simp [ownS] at e
      | some k=>obtain ⟨cs,c0,c,v,e,_⟩:=ho;rw [hset,if_pos rfl] at e;cases e
    . refine ⟨?_,hj⟩
      cases k with
      | none=>simpa only [owns,hset,if_neg hj] using ho
      | some k=>simpa only [owns,hset,if_neg hj] using ho
  have hslot:∀ j,SlotOK M w (st.set i .und) a (tm a j) (get (st.set i .und) j):=by
    intro j
    rw [hset]
    by_cases hj:j=i
    . rw [if_pos hj];trivial
    . rw [if_neg hj]
      have hs:=h.slot j
      cases e:get st j with
      | fa hm off=>exact absurd e (hno j hm off)
      | al hm k t xs =>
        rw [e] at hs
        cases k with
        | none=>exact ⟨hs.1,fun u ys hu=>by rw [hset] at hu;split at hu;cases hu;exact hs.2 u ys hu⟩
        | some k=>exact ⟨hs.1,fun cs u ys b h1 h2 h3=>by rw [hset] at h1;split at h1;cases h1;exact hs.2 cs u ys b h1 h2 h3⟩
      | ar hm k t =>
        rw [e] at hs
        cases k with
        | none=>intro ys hu;rw [hset] at hu;split at hu;cases hu;exact hs ys hu
        | some k=>intro cs ys b h1 h2 h3;rw [hset] at h1;split at h1;cases h1;exact hs cs ys b h1 h2 h3
      | ea hm k t i' =>
        rw [e] at hs
        cases k with
        | none=>intro ys hu;rw [hset] at hu;split at hu;cases hu;exact hs ys hu
        | some k=>intro cs ys b h1 h2 h3;rw [hset] at h1;split at h1;cases h1;exact hs cs ys b h1 h2 h3
      | _=>rw [e] at hs;exact hs
  have h1:Good M0 F M (st.set i .und) a w :=
    ⟨h.defers,by rw [h.size];simp,h.room,h.base,h.up,h.lt,h.down,hslot,fun i k j l b h1 h2=>h.one i k j l b (howns _ _ _ h1).1 (howns _ _ _ h2).1,fun i k b h1=>h.new i k b (howns _ _ _ h1).1,h.keep,fun j v hj=>by
      obtain ⟨p1,p2⟩:=h.pin j v hj
      rw [hset,if_neg fun e=>by rw [e,hpi] at hj;cases hj]
      exact ⟨p1,p2⟩,h.dm⟩
  have hs:=h.slot i
  rw [hg] at hs
  obtain ⟨b,T,cells,e1,e2,e3,e4,e5⟩:=hs
  have hown:owns st a w i none b:=⟨by rw [hg];rfl,by rw [e1];rfl⟩
  have hfz:=h1.freeze (g:=b) (n:=cells.size) (h.new i none b hown) fun j l ho=>(howns j l b ho).2 (h.one j l i none b (howns j l b ho).1 hown).1
  have hall:CellsOK M w cells.toList cs:=(cellsOK_iff _ _).2 ⟨by simpa using e3,fun k c u h1 h2=>e5 k c u h1 (by simpa using h2)⟩
  obtain ⟨c1,us',k1,k2,k3⟩:=gath_ok t _ _ x [] hall hx
  have hus:us'=[]:=by
    have:=((cellsOK_iff _ _).1 k3).1
    exact List.eq_nil_of_length_eq_zero (by simpa using this)
  subst hus
  rw [List.append_nil] at k1
  refine ⟨fun b' o=>M b' o/\¬ (b'=b/\o<cells.size),?_⟩
  have:=hfz.put_plain (d:=i) (s:=.ref t x) (v:=tm a i) (by simpa using hi) (fun cs e=>by rw [hset,if_pos rfl] at e;cases e) rfl ⟨b,0,c1,e1,RepC.length _ _ _ k2,fun j hj=>?_,RepC.mono (fun b o v h1 h2=>⟨h1,fun h3=>h2 h3.1⟩) _ _ _ k2⟩
  . rwa [put_same (by rw [h.size];exact hi),List.set_set] at this
  . have hlt:j<cells.size:=by rw [<- Array.length_toList,k1];exact hj
    rw [Nat.zero_add]
    refine ⟨?_,fun h3=>h3.2 ⟨rfl,hlt⟩⟩
    rw [cell_of_row w b j cells T (0,0) e2]
    have:cells.toList[j]? = c1[j]? := by rw [k1]
    rw [Array.getElem?_toList,List.getElem?_eq_getElem hj] at this
    exact this
theorem frzBs_box:∀ (n:Nat) (l:List Nat) (st:St),l.length<=n->∀ j,isBox (get (frzBs P l st) j)=true->isBox (get st j)=true
  | _,[],_,_,_,h=>h
  | _,[_],_,_,_,h=>h
  | 0,_ :: _ :: _,_,hl,_,_=>by simp at hl
  | n+1,i :: T :: l,st,hl,j,h=>by
    unfold Go.V.frzBs at h
    have:=frzBs_box n l _ (by simp at hl;omega) j h
    rcases Nat.lt_or_ge i st.length with hi|hi
    . rw [get_set st i j _ hi] at this
      split at this
      . rename_i e
        subst e
        unfold frzB at this
        split at this
        . rename_i cs e;rw [e];rfl
        . exact this
      . exact this
    . rw [List.set_eq_of_length_le hi] at this;exact this
theorem Conc.frzBs:∀ (n:Nat) (l:List Nat) (st:St),l.length<=n->(∀ j hm off,get st j ≠ .fa hm off)->(∀ j v,M0.pin j=some v->isBox (get (frzBs P l st) j)=true)->Conc F M0 w0 st a w->Conc F M0 w0 (frzBs P l st) a w
  | _,[],_,_,_,_,h=>h
  | _,[_],_,_,_,_,h=>h
  | 0,_ :: _ :: _,_,hl,_,_,_=>by simp at hl
  | n+1,i :: T :: l,st,hl,hno,hpn,⟨hb,M,hg⟩=>by
    unfold Go.V.frzBs at hpn ⊢
    have key:∀ s,frzB P T (get st i)=s->((∃ M',Good M0 F M' (st.set i s) a w)/\∀ j hm off,get (st.set i s) j ≠ .fa hm off):=by
      intro s hs
      have hfa:(∀ hm off,s ≠ .fa hm off)->∀ j hm off,get (st.set i s) j ≠ .fa hm off:=by
        intro h1 j hm off
        rcases Nat.lt_or_ge i st.length with hi|hi
        . rw [get_set st i j s hi]
          split
          . exact h1 hm off
          . exact hno j hm off
        . rw [List.set_eq_of_length_le hi];exact hno j hm off
      have same:s=get st i->((∃ M',Good M0 F M' (st.set i s) a w)/\∀ j hm off,get (st.set i s) j ≠ .fa hm off):=by
        intro e
        refine ⟨⟨M,?_⟩,hfa fun hm off e'=>hno i hm off (by rw [<- e];exact e')⟩
        have:st.set i s=st:=by
          apply List.ext_getElem?
          intro j
          by_cases hj:j=i
          . subst hj
            rcases Nat.lt_or_ge j st.length with hlt|hge
            . rw [List.getElem?_set_self hlt]
              unfold get at e
              rw [List.getD_eq_getElem?_getD,List.getElem?_eq_getElem hlt] at e
              rw [List.getElem?_eq_getElem hlt,e];rfl
            . rw [List.getElem?_eq_none (by simpa using hge),List.getElem?_eq_none hge]
          . rw [List.getElem?_set_ne (Ne.symm hj)]
        rw [this];exact hg
      unfold frzB at hs
      split at hs
      . rename_i cs e
        split at hs
        . rename_i t ht
          split at hs
          . rename_i x hx
            subst hs
            have hpi:M0.pin i=none:=by
              cases hp:M0.pin i with
              | none=>rfl
              | some v =>
                have h1:=frzBs_box n l _ (by simp at hl;omega) i (hpn i v hp)
                have hi:i<st.length:=by
                  rcases Nat.lt_or_ge i st.length with h'|h'
                  . exact h'
                  . rw [get_oob h'] at e;cases e
                rw [get_set st i i _ hi,if_pos rfl,e] at h1
                unfold frzB at h1
                simp only [ht,hx] at h1
                cases h1
            exact ⟨hg.frzB1 hno hpi e hx,hfa fun hm off e'=>by cases e'⟩
          . exact same (by rw [<- hs,e])
        . exact same (by rw [<- hs,e])
      . exact same hs.symm
    obtain ⟨⟨M',h'⟩,hno'⟩:=key _ rfl
    exact Conc.frzBs n l _ (by simp at hl;omega) hno' hpn ⟨hb,M',h'⟩
theorem fa_frzAll:∀ (l:List Nat) (st:St),(∀ j hm off,get st j ≠ .fa hm off)->∀ j hm off,get (frzAll l st) j ≠ .fa hm off
  | [],_,h=>h
  | i :: l,st,h=>fa_frzAll l _ fun j hm off=>by
    rcases Nat.lt_or_ge i st.length with hi|hi
    . rw [get_set st i j _ hi]
      split
      . intro e
        cases hs:get st i<;>rw [hs] at e<;>simp [frzS] at e
        exact h i _ _ hs
      . exact h j hm off
    . rw [List.set_eq_of_length_le hi];exact h j hm off
theorem Conc.frz (h:Conc F M0 w0 st a w) {hints:List (Nat×List Nat)} {id:Nat} (hpn:∀ j v,M0.pin j=some v->isBox (get (frz P hints id (st.map dropS)) j)=true):Conc F M0 w0 (frz P hints id (st.map dropS)) a w:=by
  refine Conc.frzBs _ _ _ (Nat.le_refl _) (fa_frzAll _ _ fun j hm off e=>?_) hpn (Conc.frzAll _ _ h.drop)
  rw [get_map] at e
  cases hs:get st j<;>rw [hs] at e<;>simp [dropS] at e
end
end Go.V
