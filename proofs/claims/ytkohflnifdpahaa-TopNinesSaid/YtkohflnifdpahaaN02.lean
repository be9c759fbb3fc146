/- A part of the proof of TopNinesSaid: no condition beyond what each theorem says. -/
import Derived.Test.YtkohflnifdpahaaN01
import Derived.Laws.BytesString
set_option linter.all false
namespace Go.V
open Go.RowKit (Below)
section
variable {P : Program} {Φ : Nat → List Spec} {F : Nat → Prop} {M0 : Base} {w0 : World} {M : Mut} {st : St} {a : Act} {w : World} {o : Oper}
theorem conv_bytes (hg:Good M0 F M st a w) (hb:Fr F w0 w) (hnb:NoBox st o) {s t E:TypeId} {x:Operand} (ho:o.op = .convert s t x)
    (hs:P.underlying s=some (.slice E)) (ht:P.underlying t=some .string) (hE:P.underlying E=some (.int .u8)) {xs:List Int} (hx:RepV M w (.list (.int .u8)) (a.eval x) xs) {c:Bool} {rd0 rd:Nat} {wr:List (Nat×S)}
    (h:put1 o.dst.toList true rd0 (.d .str (toBytes xs)) = .eff c rd wr):ORun P F M0 w0 o a w (app wr st):=by
  obtain ⟨p,cap,f1,f2,f3⟩:=repC_list hx
  simp only [List.cons.injEq,and_true] at f1
  refine orun_put hg hb hnb h rfl (v:=.string ⟨⟨toBytes xs⟩⟩) ?_ (mk_str (toBytes xs))
  have hcv:(Conv.bytesToString (.slice p xs.length cap)).run P w = .ok (.string ⟨⟨toBytes xs⟩⟩) w:=by
    cases p with
    | none =>
      have:xs=[]:=by
        cases xs with
        | nil=>rfl
        | cons n ns=>obtain ⟨b,off,ec,g1,_⟩:=f3 0 (Nat.succ_pos _);cases g1
      subst this
      rfl
    | some p =>
      have hl:(loadCells p xs.length).run P w = .ok (xs.map (Value.int .u8)).toArray w:=by
        have hln:xs.length=(xs.map (Value.int .u8)).length:=by simp
        rw [hln]
        refine run_loadCells_list w p _ fun j v hv=>?_
        rw [List.getElem?_map] at hv
        cases hj:xs[j]? with
        | none=>rw [hj] at hv;cases hv
        | some n =>
          rw [hj] at hv
          cases hv
          obtain ⟨hlt,e⟩:=List.getElem?_eq_some_iff.1 hj
          obtain ⟨b,off,ec,g1,g2,g3,g4⟩:=f3 j hlt
          cases g1
          have g4:ec=[.int .u8 xs[j]]:=g4
          subst g4
          have:=(g3 0 (by simp)).1
          simp [Ty.size] at this
          rw [add_lit,this,e]
      rw [run_bytesToString w p xs.length cap xs hl,foldl_bytes]
      rfl
  have hcv':=(run_convert_bytes_string w s t E p xs.length cap hs hE ht).trans hcv
  simp only [execOp,ho,f1,Sem.run_bind,Sem.run_pure]
  exact congrArg (fun r=>Result.andThen r fun a w'=>Result.ok (Next.value a) w') hcv'
theorem op_convert (hg:Good M0 F M st a w) (hb:Fr F w0 w) (hnb:NoBox st o) {s t:TypeId} {x:Operand} (ho:o.op = .convert s t x)
    {c:Bool} {rd:Nat} {wr:List (Nat×S)} (h:vpre P Φ o st = .eff c rd wr):ORun P F M0 w0 o a w (app wr st):=by
  simp only [vpre,ho] at h
  have hx:=opnd_ok hg x
  unfold preConv at h
  split at h
  . rename_i j k hs ht
    split at h
    . rename_i k' n e
      exact conv_int hg hb hnb ho hs ht (repV_int (slot_d hg e)) h
    . cases h
  . rename_i hs ht
    split at h
    . rename_i b e
      exact conv_str hg hb hnb ho hs ht (repV_str (slot_d hg e)) h
    . cases h
  . rename_i E hs ht
    split at h
    . rename_i hE
      split at h
      . rename_i xs hxs
        exact conv_bytes hg hb hnb ho hs ht hE (as_ok hx hxs) h
      . cases h
    . cases h
  . cases h
theorem heap_size_alloc (w:World) (ob:Obj):(w.alloc ob).heap.size=w.heap.size+1:=by
  show (w.heap.push ob).size=_
  simp
theorem stable_alloc (M:Mut) (w:World) (ob:Obj) (q:Nat->Prop):Stable M w (fun b o=>M b o\/(b=w.heap.size/\q o)) (w.alloc ob):=by
  intro b o v h1 h2
  have hlt:=cell_lt h1
  refine ⟨?_,?_⟩
  . rw [World.cell?_of_block (w:=w) (a:=⟨b,o,none⟩) (heap_alloc_old w ob b hlt)];exact h1
  . rintro (h|⟨h,_⟩)
    . exact h2 h
    . omega
theorem Good.alloc (h:Good M0 F M st a w) (ob:Obj) (q:Nat->Prop) :
    Good M0 F (fun b o=>M b o\/(b=w.heap.size/\q o)) st a (w.alloc ob):=by
  refine h.world (stable_alloc M w ob q) (by rw [heap_size_alloc];omega) (fun b o hm=>.inl (h.up b o hm)) ?_ ?_ (fun D c e=>(heap_alloc_old w ob D (Array.getElem?_eq_some_iff.1 e).1).trans e) fun i k b ho=>⟨heap_alloc_old w ob b (owns_lt h.slot ho),fun _ h=>.inl h⟩
  . rintro b o (hm|⟨rfl,_⟩)
    . have:=h.lt b o hm;rw [heap_size_alloc];omega
    . rw [heap_size_alloc];omega
  . rintro b o hlt (hm|⟨rfl,_⟩)
    . exact h.down b o hlt hm
    . have:=h.room _ hlt;omega
theorem Good.drew (h:Good M0 F M st a w):Good M0 F M st a w.drew :=
  h.world (fun _ _ _ h1 h2=>⟨h1,h2⟩) (Nat.le_refl _) h.up h.lt h.down (KeepsD.refl w) fun _ _ _ _=>⟨rfl,fun _ h=>h⟩
theorem put_oob {d:Nat} {v:Value} (h:a.tmps.size<=d):a.put (some d) v=a:=by
  simp only [Act.put,Array.setIfInBounds]
  rw [dif_neg (by omega)]
theorem cellsOf_noarr:∀ (t:Ty) (x:t.den) (k:Nat) (u:Ty) (ys:List u.den) (hh:Bool),(cellsOf t x)[k]? ≠ some (C.arr u ys hh)
  | .unit,_,k,u,ys,hh=>by simp [cellsOf]
  | .prod p q,x,k,u,ys,hh=>by
    simp only [cellsOf,List.getElem?_append]
    split
    . exact cellsOf_noarr p x.1 _ _ _ _
    . exact cellsOf_noarr q x.2 _ _ _ _
  | .int _,x,k,u,ys,hh=>by cases k<;>simp [cellsOf]
  | .bool,x,k,u,ys,hh=>by cases k<;>simp [cellsOf]
  | .str,x,k,u,ys,hh=>by cases k<;>simp [cellsOf]
  | .list _,x,k,u,ys,hh=>by cases k<;>simp [cellsOf]
  | .raw,x,k,u,ys,hh=>by cases k<;>simp [cellsOf]
  | .opq,x,k,u,ys,hh=>by cases k<;>simp [cellsOf]
  | .dyn _ _,x,k,u,ys,hh=>by cases k<;>simp [cellsOf]
  | .ptr _,x,k,u,ys,hh=>by cases k<;>simp [cellsOf]
  | .clo _ _ _,x,k,u,ys,hh=>by cases k<;>simp [cellsOf]
theorem cellsZ_noarr:∀ (t:Ty) (k:Nat) (u:Ty) (ys:List u.den) (hh:Bool),(cellsZ t)[k]? ≠ some (C.arr u ys hh)
  | .unit,k,u,ys,hh=>by simp [cellsZ]
  | .prod p q,k,u,ys,hh=>by
    simp only [cellsZ,List.getElem?_append]
    split
    . exact cellsZ_noarr p _ _ _ _
    . exact cellsZ_noarr q _ _ _ _
  | .int _,k,u,ys,hh=>by cases k<;>simp [cellsZ]
  | .bool,k,u,ys,hh=>by cases k<;>simp [cellsZ]
  | .str,k,u,ys,hh=>by cases k<;>simp [cellsZ]
  | .list _,k,u,ys,hh=>by cases k<;>simp [cellsZ]
  | .raw,k,u,ys,hh=>by cases k<;>simp [cellsZ]
  | .opq,k,u,ys,hh=>by cases k<;>simp [cellsZ]
  | .dyn _ _,k,u,ys,hh=>by cases k<;>simp [cellsZ]
  | .ptr _,k,u,ys,hh=>by cases k<;>simp [cellsZ]
  | .clo _ _ _,k,u,ys,hh=>by cases k<;>simp [cellsZ]
theorem Good.put_box (h:Good M0 F M st a w) (hnb:NoBox st o) {cs:List C} {cells:Array Value} {E:TypeId} (hna:∀ (k:Nat) t xs hh,cs[k]? ≠ some (C.arr t xs hh)) (hf:∀ (k:Nat) t xs,cs[k]? ≠ some (C.own t xs false))
    (hown:∀ (k:Nat) t xs hh v,cs[k]? = some (C.own t xs hh)->cells[k]? = some v->v = .slice none 0 0) (hsz:cells.size=cs.length)
    (hok:∀ (k:Nat) (c:C) (u:Value),cs[k]? = some c->cells[k]? = some u->CellOK M w u c) :
    ∃ M',Good M0 F M' (app (o.dst.toList.map (·,S.box cs)) st) (a.put o.dst (.pointer (some ⟨w.heap.size,0,none⟩))) (w.alloc (.cells cells E)):=by
  have h1:=h.alloc (.cells cells E) (fun _=>True)
  refine ⟨fun b o=>M b o\/(b=w.heap.size/\True),?_⟩
  . cases hdst:o.dst with
    | none=>exact h1
    | some d =>
      show Good M0 F _ (st.set d (.box cs)) (a.put (some d) _) _
      rcases Nat.lt_or_ge d st.length with hd|hd
      rotate_left
      . rw [List.set_eq_of_length_le hd,put_oob (by rw [h.size];exact hd)];exact h1
      have hda:d<a.tmps.size:=by rw [h.size];exact hd
      have hnb':∀ cs,get st d ≠ .box cs:=fun cs e=>by have:=hnb d hdst;rw [e] at this;cases this
      have key:∀ k b,owns (st.set d (.box cs)) (a.put (some d) (.pointer (some ⟨w.heap.size,0,none⟩))) (w.alloc (.cells cells E)) d k b->k=none/\b=w.heap.size:=by
        intro k b hk
        cases k with
        | none =>
          have:=hk.2
          rw [tm_put a _ _ _ hda,if_pos rfl] at this
          simp [ownB] at this
          exact ⟨rfl,this.symm⟩
        | some k =>
          obtain ⟨cs',c0,c,v,e1,e2,e0,e3,e4,e5⟩:=hk
          rw [get_set st _ _ _ hd,if_pos rfl] at e1;cases e1
          rw [tm_put a _ _ _ hda,if_pos rfl] at e3
          simp [ownB] at e3;subst e3
          rw [cell_of_row _ _ k cells E (0,0) (heap_alloc_new w _)] at e4
          cases c0<;>simp [ownC] at e0
          . have:=hown k _ _ _ v e2 e4
            subst this
            simp [ownB] at e5
          . exact absurd e2 (hna k _ _ _)
      refine h1.put hd hnb' (fun k t xs=>⟨hf k t xs,hna k t xs false⟩) ⟨w.heap.size,E,cells,rfl,heap_alloc_new w _,hsz,fun _=>.inr ⟨rfl,trivial⟩,fun k c u hc hu=>?_⟩ (fun k b hk=>?_) (fun k l b e1 e2=>by rw [(key k b e1).1,(key l b e2).1])
      . refine (hok k c u hc hu).keep (stable_alloc M w _ _) fun b ec eb=>?_
        cases c<;>simp [ownC] at ec
        . have:=hown k _ _ _ u hc hu
          subst this
          simp [ownB] at eb
        . exact absurd hc (hna k _ _ _)
      . obtain ⟨_,rfl⟩:=key k b hk
        exact ⟨fun hF=>absurd (h.room _ hF) (Nat.lt_irrefl _),fun j l _=>fun ho=>absurd (owns_lt h.slot (owns_world (fun i b ho'=>heap_alloc_old w _ b (owns_lt h.slot ho')) ho)) (by omega)⟩
theorem cellsOf_ok:∀ (t:Ty) (us:List Value) (x:t.den),RepC M w t us x->CellsOK M w us (cellsOf t x)/\∀ (k:Nat) u ys hh,(cellsOf t x)[k]? ≠ some (C.own u ys hh)
  | .unit,us,x,h=>by rw [show us=[] from h];exact ⟨trivial,by simp [cellsOf]⟩
  | .prod p q,us,x,h=>by
    obtain ⟨c1,c2,rfl,h1,h2⟩:=h
    obtain ⟨i1,i2⟩:=cellsOf_ok p c1 x.1 h1
    obtain ⟨j1,j2⟩:=cellsOf_ok q c2 x.2 h2
    have happ:∀ (us vs:List Value) (cs ds:List C),CellsOK M w us cs->CellsOK M w vs ds->CellsOK M w (us++vs) (cs++ds):=by
      intro us
      induction us with
      | nil=>intro vs cs ds a b;cases cs with
        | nil=>exact b
        | cons _ _=>exact a.elim
      | cons u us ih=>intro vs cs ds a b;cases cs with
        | nil=>exact a.elim
        | cons c cs=>exact ⟨a.1,ih vs cs ds a.2 b⟩
    refine ⟨happ _ _ _ _ i1 j1,fun k u ys hh e=>?_⟩
    simp only [cellsOf,List.getElem?_append] at e
    split at e
    . exact i2 _ _ _ _ e
    . exact j2 _ _ _ _ e
  | .int _,us,x,h=>by
    have hl:=RepC.length _ _ _ h
    match us,hl with
    | [v],_=>exact ⟨⟨h,trivial⟩,fun k u ys hh e=>by cases k<;>simp [cellsOf] at e⟩
  | .bool,us,x,h=>by
    have hl:=RepC.length _ _ _ h
    match us,hl with
    | [v],_=>exact ⟨⟨h,trivial⟩,fun k u ys hh e=>by cases k<;>simp [cellsOf] at e⟩
  | .str,us,x,h=>by
    have hl:=RepC.length _ _ _ h
    match us,hl with
    | [v],_=>exact ⟨⟨h,trivial⟩,fun k u ys hh e=>by cases k<;>simp [cellsOf] at e⟩
  | .list _,us,x,h=>by
    have hl:=RepC.length _ _ _ h
    match us,hl with
    | [v],_=>exact ⟨⟨h,trivial⟩,fun k u ys hh e=>by cases k<;>simp [cellsOf] at e⟩
  | .raw,us,x,h=>by
    have hl:=RepC.length _ _ _ h
    match us,hl with
    | [v],_=>exact ⟨⟨h,trivial⟩,fun k u ys hh e=>by cases k<;>simp [cellsOf] at e⟩
  | .opq,us,x,h=>by
    have hl:=RepC.length _ _ _ h
    match us,hl with
    | [v],_=>exact ⟨⟨h,trivial⟩,fun k u ys hh e=>by cases k<;>simp [cellsOf] at e⟩
  | .dyn _ _,us,x,h=>by
    have hl:=RepC.length _ _ _ h
    match us,hl with
    | [v],_=>exact ⟨⟨h,trivial⟩,fun k u ys hh e=>by cases k<;>simp [cellsOf] at e⟩
  | .ptr _,us,x,h=>by
    have hl:=RepC.length _ _ _ h
    match us,hl with
    | [v],_=>exact ⟨⟨h,trivial⟩,fun k u ys hh e=>by cases k<;>simp [cellsOf] at e⟩
  | .clo _ _ _,us,x,h=>by
    have hl:=RepC.length _ _ _ h
    match us,hl with
    | [v],_=>exact ⟨⟨h,trivial⟩,fun k u ys hh e=>by cases k<;>simp [cellsOf] at e⟩
theorem op_box (hg:Good M0 F M st a w) (hb:Fr F w0 w) (hnb:NoBox st o) {T:TypeId} {x:Operand} (ho:o.op = .box T x)
    {c:Bool} {rd:Nat} {wr:List (Nat×S)} (h:vpre P Φ o st = .eff c rd wr):ORun P F M0 w0 o a w (app wr st):=by
  simp only [vpre,ho] at h
  have hx:=opnd_ok hg x
  split at h
  rotate_left
  . cases h
  rename_i t ht
  split at h
  . rename_i hs
    rw [hs] at hx
    have hx':a.eval x = .slice none 0 0:=hx
    split at h
    rotate_left
    . cases h
    rename_i e
    simp only [Pre.eff.injEq] at h
    obtain ⟨_,_,rfl⟩:=h
    obtain ⟨M',hg'⟩:=hg.put_box (o:=o) (E:=T) hnb (cs:=[.own e [] true]) (cells := #[.slice none 0 0]) (fun k t xs hh h=>by cases k<;>simp at h) (fun k t xs h=>by cases k<;>simp at h)
      (fun k t xs hh v h1 h2=>by cases k<;>simp at h1 h2;exact h2.symm) rfl
      (fun k c u h1 h2=>by
        match k,h1,h2 with
        | 0,h1,h2=>cases h1;cases h2;exact ⟨RepC.list_nil e,.inl ⟨rfl,rfl⟩⟩
        | _+1,h1,_=>cases h1)
    refine ⟨.pointer (some ⟨w.heap.size,0,none⟩),w.alloc (.cells #[.slice none 0 0] T),.inl ?_,hb.alloc hg.room _,M',hg'⟩
    simp [execOp,ho,Instr.box,newVar,newRow,hx',Value.cells]
  split at h
  rotate_left
  . unfold cloBox at h
    split at h
    rotate_left
    . cases h
    split at h
    rotate_left
    . cases h
    rename_i g p q y es
    rw [es] at hx
    obtain ⟨cs,e1,e2⟩:=hx
    obtain ⟨fc,pc,e3,e4⟩:=id e2
    simp only [Pre.eff.injEq] at h
    obtain ⟨_,_,rfl⟩:=h
    subst e3
    have hcells:(a.eval x).cells = #[.func (.func g) (firstsOf p fc) pc.toArray]:=by rw [e1];rfl
    obtain ⟨M',hg'⟩:=hg.put_box (o:=o) (E:=T) hnb (cs:=[.d (.clo g p q) y]) (cells := #[.func (.func g) (firstsOf p fc) pc.toArray]) (fun k t xs hh h=>by cases k<;>simp at h) (fun k t xs h=>by cases k<;>simp at h)
      (fun k t xs hh v h1 h2=>by cases k<;>simp at h1) rfl
      (fun k c u h1 h2=>by
        match k,h1,h2 with
        | 0,h1,h2=>cases h1;cases h2;exact e2
        | _+1,h1,_=>cases h1)
    refine ⟨.pointer (some ⟨w.heap.size,0,none⟩),w.alloc (.cells #[.func (.func g) (firstsOf p fc) pc.toArray] T),.inl ?_,hb.alloc hg.room _,M',hg'⟩
    simp [execOp,ho,Instr.box,newVar,newRow,hcells]
  rename_i v hv
  obtain ⟨cs,e1,e2⟩:=as_ok hx hv
  obtain ⟨k1,k2⟩:=cellsOf_ok t cs v e2
  rw [cellsOK_iff] at k1
  simp only [Pre.eff.injEq] at h
  obtain ⟨_,_,rfl⟩:=h
  have hcells:(a.eval x).cells=cs.toArray:=by rw [e1];exact toVal_cells e2
  obtain ⟨M',hg'⟩:=hg.put_box (o:=o) (E:=T) hnb (cs:=cellsOf t v) (cells:=cs.toArray) (cellsOf_noarr t v) (fun k u ys=>k2 k u ys false) (fun k u ys hh _ e _=>absurd e (k2 k u ys hh)) (by simpa using k1.1)
    (fun k c u e1 e2=>k1.2 k c u e1 (by simpa using e2))
  refine ⟨.pointer (some ⟨w.heap.size,0,none⟩),w.alloc (.cells cs.toArray T),.inl ?_,hb.alloc hg.room _,M',hg'⟩
  simp [execOp,ho,Instr.box,newVar,newRow,hcells]
theorem zero1_ok {t:Ty} {v:Value} (ha:t.agg=false) (h:zero1 t v=true):RepC M w t [v] t.zero/\∀ e,t = .list e->v = .slice none 0 0:=by
  cases t with
  | unit=>cases ha
  | prod p q=>cases ha
  | int k =>
    cases v<;>simp [zero1] at h
    obtain ⟨rfl,rfl⟩:=h
    exact ⟨rfl,fun e h=>by cases h⟩
  | bool =>
    cases v<;>simp [zero1] at h
    subst h
    exact ⟨rfl,fun e h=>by cases h⟩
  | str =>
    cases v<;>simp [zero1] at h
    rename_i s
    refine ⟨?_,fun e h=>by cases h⟩
    show [Value.string s]=[.string ⟨⟨[]⟩⟩]
    congr 2
    apply ByteArray.ext
    simpa using h
  | list e =>
    unfold zero1 at h
    dsimp only at h
    split at h
    . exact ⟨RepC.list_nil e,fun _ _=>rfl⟩
    . cases h
  | raw =>
    cases v<;>simp [zero1] at h
    exact ⟨⟨rfl,rfl,rfl⟩,fun e h=>by cases h⟩
  | opq =>
    unfold zero1 at h
    dsimp only at h
    split at h
    . exact ⟨⟨_,rfl,rfl,rfl⟩,fun e h=>by cases h⟩
    . exact ⟨⟨_,rfl,rfl,rfl⟩,fun e h=>by cases h⟩
    . cases h
  | dyn T e=>simp [zero1] at h
  | ptr e=>simp [zero1] at h
  | clo T e e2=>simp [zero1] at h
theorem zero1_leaf {t:Ty} {us rest:List Value} (ha:t.agg=false) (hz:cellsZ t=[.d t t.zero])
    (h:zeroLeaf t us=some rest) :
    ∃ c1,us=c1++rest/\RepC M w t c1 t.zero/\CellsOK M w c1 (cellsZ t) /\
    (∀ (k:Nat) u ys,(cellsZ t)[k]? ≠ some (C.own u ys false))/\∀ (k:Nat) u ys hh v,(cellsZ t)[k]? = some (C.own u ys hh)->c1[k]? = some v->v = .slice none 0 0:=by
  unfold zeroLeaf at h
  cases us with
  | nil=>cases h
  | cons v cs =>
    dsimp only at h
    split at h
    . rename_i hz1
      cases h
      obtain ⟨r1,_⟩:=zero1_ok (M:=M) (w:=w) ha hz1
      rw [hz]
      refine ⟨[v],rfl,r1,⟨r1,trivial⟩,fun k u ys e=>?_,fun k u ys hh v' e e'=>?_⟩
      . cases k<;>simp at e
      . cases k<;>simp at e
    . cases h
theorem zeroOk_ok:∀ (t:Ty) (us rest:List Value),zeroOk t us=some rest->∃ c1,us=c1++rest/\RepC M w t c1 t.zero/\CellsOK M w c1 (cellsZ t) /\
    (∀ (k:Nat) u ys,(cellsZ t)[k]? ≠ some (C.own u ys false))/\∀ (k:Nat) u ys hh v,(cellsZ t)[k]? = some (C.own u ys hh)->c1[k]? = some v->v = .slice none 0 0
  | .unit,us,rest,h=>by
    simp only [zeroOk,Option.some.injEq] at h
    subst h
    exact ⟨[],rfl,rfl,trivial,by simp [cellsZ],by simp [cellsZ]⟩
  | .prod p q,us,rest,h=>by
    simp only [zeroOk] at h
    cases h1:zeroOk p us with
    | none=>rw [h1] at h;cases h
    | some r1 =>
      rw [h1] at h
      obtain ⟨c1,rfl,a1,a2,a3,a4⟩:=zeroOk_ok p us r1 h1
      obtain ⟨c2,rfl,b1,b2,b3,b4⟩:=zeroOk_ok q r1 rest h
      have happ:∀ (us vs:List Value) (cs ds:List C),CellsOK M w us cs->CellsOK M w vs ds->CellsOK M w (us++vs) (cs++ds):=by
        intro us
        induction us with
        | nil=>intro vs cs ds a b;cases cs with
          | nil=>exact b
          | cons _ _=>exact a.elim
        | cons u us ih=>intro vs cs ds a b;cases cs with
          | nil=>exact a.elim
          | cons c cs=>exact ⟨a.1,ih vs cs ds a.2 b⟩
      have hl:c1.length=(cellsZ p).length:=((cellsOK_iff _ _).1 a2).1
      refine ⟨c1++c2,by simp,⟨c1,c2,rfl,a1,b1⟩,happ _ _ _ _ a2 b2,fun k u ys e=>?_,fun k u ys hh v e e'=>?_⟩
      . simp only [cellsZ,List.getElem?_append] at e
        split at e
        . exact a3 _ _ _ e
        . exact b3 _ _ _ e
      . simp only [cellsZ,List.getElem?_append] at e e'
        rw [hl] at e'
        split at e
        . rename_i hlt
          rw [if_pos hlt] at e'
          exact a4 _ _ _ _ _ e e'
        . rename_i hlt
          rw [if_neg hlt] at e'
          exact b4 _ _ _ _ _ e e'
  | .int k,us,rest,h=>zero1_leaf rfl rfl (by simpa only [zeroOk] using h)
  | .bool,us,rest,h=>zero1_leaf rfl rfl (by simpa only [zeroOk] using h)
  | .str,us,rest,h=>zero1_leaf rfl rfl (by simpa only [zeroOk] using h)
  | .list e,us,rest,h=>by
    simp only [zeroOk,zeroLeaf] at h
    split at h
    . rename_i v cs
      split at h
      . rename_i hz
        cases h
        obtain ⟨r1,r2⟩:=zero1_ok (M:=M) (w:=w) rfl hz
        have hv:v = .slice none 0 0:=r2 e rfl
        refine ⟨[v],rfl,r1,⟨⟨r1,.inl ⟨hv,rfl⟩⟩,trivial⟩,fun k u ys e=>?_,fun k u ys hh v' e e'=>?_⟩
        . cases k<;>simp [cellsZ] at e
        . cases k with
          | zero=>simp at e';rw [<- e'];exact hv
          | succ k=>simp at e'
      . cases h
    . cases h
  | .raw,us,rest,h=>zero1_leaf rfl rfl (by simpa only [zeroOk] using h)
  | .opq,us,rest,h=>zero1_leaf rfl rfl (by simpa only [zeroOk] using h)
  | .dyn T e,us,rest,h=>zero1_leaf rfl rfl (by simpa only [zeroOk] using h)
  | .ptr e,us,rest,h=>zero1_leaf rfl rfl (by simpa only [zeroOk] using h)
  | .clo T e e2,us,rest,h=>zero1_leaf rfl rfl (by simpa only [zeroOk] using h)
theorem isZero_ok {T:TypeId} {t:Ty} (h:isZero P T t=true):∃ i z cs,P.info? T=some i/\i.zero=some z/\z=toVal t cs/\z.cells=cs.toArray/\RepC M w t cs t.zero/\CellsOK M w cs (cellsZ t) /\
    (∀ (k:Nat) u ys,(cellsZ t)[k]? ≠ some (C.own u ys false))/\∀ (k:Nat) u ys hh v,(cellsZ t)[k]? = some (C.own u ys hh)->cs[k]? = some v->v = .slice none 0 0:=by
  unfold isZero at h
  split at h
  . rename_i i hi
    split at h
    . rename_i z hz
      split at h
      . rename_i hzo
        obtain ⟨c1,e1,e2,e3,e4,e5⟩:=zeroOk_ok (M:=M) (w:=w) t _ _ hzo
        rw [List.append_nil] at e1
        refine ⟨i,z,c1,hi,hz,?_,by rw [<- e1],e2,e3,e4,e5⟩
        have h1:=RepC.one _ _ _ e2
        split at h
        . rename_i cs
          rw [toVal,if_pos h,<- e1]
          simp [Value.cells]
        . rename_i hna
          have ha:t.agg=false:=by simpa using h
          rw [toVal,if_neg (by simp [ha]),<- e1]
          cases z with
          | agg cs=>exact absurd rfl (hna cs)
          | _=>rfl
      . cases h
    . cases h
  . cases h
theorem op_alloc (hg:Good M0 F M st a w) (hb:Fr F w0 w) (hnb:NoBox st o) {T:TypeId} (ho:o.op = .alloc T)
    {c:Bool} {rd:Nat} {wr:List (Nat×S)} (h:vpre P Φ o st = .eff c rd wr):ORun P F M0 w0 o a w (app wr st):=by
  simp only [vpre,ho] at h
  split at h
  rotate_left
  . cases h
  rename_i t ht
  split at h
  rotate_left
  . cases h
  rename_i hz
  obtain ⟨i,z,cs,hi,hzz,ez,ecs,r1,r2,r3,r4⟩:=isZero_ok (M:=M) (w:=w) hz
  rw [cellsOK_iff] at r2
  simp only [Pre.eff.injEq] at h
  obtain ⟨_,_,rfl⟩:=h
  obtain ⟨M',hg'⟩:=hg.put_box (o:=o) (E:=T) hnb (cs:=cellsZ t) (cells:=cs.toArray) (cellsZ_noarr t) r3 (fun k u ys hh v e e'=>r4 k u ys hh v e (by simpa using e')) (by simpa using r2.1)
    (fun k c u e1 e2=>r2.2 k c u e1 (by simpa using e2))
  refine ⟨.pointer (some ⟨w.heap.size,0,none⟩),w.alloc (.cells cs.toArray T),.inl ?_,hb.alloc hg.room _,M',hg'⟩
  simp [execOp,ho,Instr.alloc,zeroValue,typeInfo,hi,hzz,newVar,newRow,ecs]
theorem op_makeMap (hg:Good M0 F M st a w) (hb:Fr F w0 w) (hnb:NoBox st o) {T:TypeId} (ho:o.op = .makeMap T none)
    {c:Bool} {rd:Nat} {wr:List (Nat×S)} (h:vpre P Φ o st = .eff c rd wr):ORun P F M0 w0 o a w (app wr st):=by
  simp only [vpre,ho,Pre.eff.injEq] at h
  obtain ⟨_,_,rfl⟩:=h
  have hg':=(hg.alloc (.map #[] 0) (fun _=>False)).fin (dst:=o.dst) (s:=.d .opq ()) (v:=.map (some w.heap.size)) hnb rfl ⟨[.map (some w.heap.size)],rfl,_,rfl,rfl,rfl⟩
  refine ⟨.map (some w.heap.size),w.alloc (.map #[] 0),.inl ?_,hb.alloc hg.room _,_,hg'⟩
  simp [execOp,ho,Instr.makeMap]
end
end Go.V
namespace Go.V
open Go.RowKit (Below)
section
variable {P : Program} {Φ : Nat → List Spec} {F : Nat → Prop} {M0 : Base} {w0 : World} {M : Mut} {st : St} {a : Act} {w : World} {o : Oper}
theorem fold_set:∀ (vs:List Value) (k off:Nat) (cs:Array Value),off+k+vs.length<=cs.size ->
    ((vs.zipIdx k).foldl (fun (cs:Array Value) (p:Value×Nat)=>cs.setIfInBounds (off+p.2) p.1) cs).toList=cs.toList.take (off+k)++vs++cs.toList.drop (off+k+vs.length)
  | [],k,off,cs,h=>by simp
  | v :: vs,k,off,cs,h=>by
    simp only [List.length_cons] at h
    rw [List.zipIdx_cons,List.foldl_cons,fold_set vs (k+1) off _ (by simp;omega)]
    simp only [Array.toList_setIfInBounds,List.length_cons]
    have hk:off+k<cs.toList.length:=by simp;omega
    rw [show off+(k+1)=off+k+1 from by omega]
    rw [List.take_set,List.drop_set_of_lt (by omega)]
    rw [List.take_succ_eq_append_getElem (by simpa using hk)]
    rw [List.set_append_right _ _ (by simp;omega)]
    simp only [List.length_take,Nat.min_eq_left (Nat.le_of_lt hk),Nat.sub_self,List.set_cons_zero]
    simp only [List.append_assoc,List.cons_append,List.nil_append]
    rw [show off+k+1+vs.length=off+k+(vs.length+1) from by omega]
theorem fill_step {place:Nat->Option (Nat×Nat)} {cells:Array Value} {i:Nat} {v:Value} {rest:List (Nat×Value)} {off size:Nat} {seg:List Value}
    (hp:place i=some (off,size)) (hv:v.cells=seg.toArray) (hs:seg.length=size) (hf:off+size<=cells.size) :
    Instr.fill place cells ((i,v) :: rest)=Instr.fill place (cells.toList.take off++seg++cells.toList.drop (off+size)).toArray rest:=by
  conv=>lhs;unfold Instr.fill
  rw [hp]
  simp only [hv,List.size_toArray,hs]
  rw [if_neg (by simp;omega)]
  congr 1
  apply Array.ext'
  have:=fold_set seg 0 off cells (by simpa [hs] using hf)
  simp only [Nat.add_zero,hs] at this
  rw [<- this]
  simp
def typeAt:Ty->Nat->Option Ty
  | .prod a _,0=>some a
  | .prod _ b,n+1=>typeAt b n
  | _,_=>none
theorem setF_rep:∀ (t:Ty) (cs:List Value) (x:t.den) (i:Nat) (s:S) (x':t.den) (v:Value),RepC M w t cs x->SlotOK M w st a v s->setF t x i s=some x' ->
    ∃ u seg,typeAt t i=some u/\v.cells=seg.toArray/\seg.length=u.size/\offOf t i+u.size<=t.size/\RepC M w t (cs.take (offOf t i)++seg++cs.drop (offOf t i+u.size)) x'
  | .prod p q,cs,x,0,s,x',v,h,hs,e=>by
    simp only [setF] at e
    cases hy:s.as p with
    | none=>rw [hy] at e;cases e
    | some y =>
      rw [hy] at e;cases e
      obtain ⟨seg,e1,e2⟩:=as_ok hs hy
      obtain ⟨c1,c2,rfl,h1,h2⟩:=h
      have hl:=RepC.length _ _ _ h1
      refine ⟨p,seg,rfl,by rw [e1];exact toVal_cells e2,RepC.length _ _ _ e2,by simp [offOf,Ty.size],⟨seg,c2,?_,e2,h2⟩⟩
      simp only [offOf,List.take_zero,List.nil_append,Nat.zero_add]
      rw [<- hl,List.drop_left]
  | .prod p q,cs,x,i+1,s,x',v,h,hs,e=>by
    simp only [setF] at e
    cases hy:setF q x.2 i s with
    | none=>rw [hy] at e;cases e
    | some y =>
      rw [hy] at e;cases e
      obtain ⟨c1,c2,rfl,h1,h2⟩:=h
      have hl:=RepC.length _ _ _ h1
      obtain ⟨u,seg,k1,k2,k3,k4,k5⟩:=setF_rep q c2 x.2 i s y v h2 hs hy
      refine ⟨u,seg,k1,k2,k3,by simp only [offOf,Ty.size];omega,⟨c1,c2.take (offOf q i)++seg++c2.drop (offOf q i+u.size),?_,h1,k5⟩⟩
      simp only [offOf]
      rw [<- hl,Nat.add_assoc,List.take_append,List.drop_append]
      simp [List.take_of_length_le,List.drop_eq_nil_of_le,Nat.le_add_right]
  | .unit,_,_,_,_,_,_,_,_,e=>by simp [setF] at e
  | .int _,_,_,_,_,_,_,_,_,e=>by simp [setF] at e
  | .bool,_,_,_,_,_,_,_,_,e=>by simp [setF] at e
  | .str,_,_,_,_,_,_,_,_,e=>by simp [setF] at e
  | .list _,_,_,_,_,_,_,_,_,e=>by simp [setF] at e
  | .raw,_,_,_,_,_,_,_,_,e=>by simp [setF] at e
  | .opq,_,_,_,_,_,_,_,_,e=>by simp [setF] at e
  | .dyn _ _,_,_,_,_,_,_,_,_,e=>by simp [setF] at e
  | .ptr _,_,_,_,_,_,_,_,_,e=>by simp [setF] at e
  | .clo _ _ _,_,_,_,_,_,_,_,_,e=>by simp [setF] at e
theorem setFs_fill (hg:Good M0 F M st a w) {t:Ty} {place:Nat->Option (Nat×Nat)} (hp:∀ i u,typeAt t i=some u->place i=some (offOf t i,u.size)) :
    ∀ (ps:List (Nat×Operand)) (cs:List Value) (x x':t.den),RepC M w t cs x->setFs t st ps x=some x' ->
      ∃ cs',Instr.fill place cs.toArray (ps.map fun p=>(p.1,a.eval p.2))=some cs'.toArray/\RepC M w t cs' x'
  | [],cs,x,x',h,e=>by
    simp only [setFs,Option.some.injEq] at e
    subst e
    exact ⟨cs,rfl,h⟩
  | (i,p) :: ps,cs,x,x',h,e=>by
    simp only [setFs] at e
    cases hy:setF t x i (opnd st p) with
    | none=>rw [hy] at e;cases e
    | some y =>
      rw [hy] at e
      obtain ⟨u,seg,k1,k2,k3,k4,k5⟩:=setF_rep t cs x i _ y _ h (opnd_ok hg p) hy
      have hl:=RepC.length _ _ _ h
      obtain ⟨cs',f1,f2⟩:=setFs_fill hg hp ps _ y x' k5 e
      refine ⟨cs',?_,f2⟩
      rw [List.map_cons,fill_step (hp i u k1) k2 k3 (by simp;omega)]
      exact f1
def placesOf:Nat->Ty->List (Nat×Nat)
  | off,.prod a b=>(off,a.size) :: placesOf (off+a.size) b
  | _,_=>[]
theorem placesOf_get:∀ (t:Ty) (off i:Nat) (u:Ty),typeAt t i=some u->(placesOf off t)[i]? = some (off+offOf t i,u.size)
  | .prod p q,off,0,u,h=>by simp only [typeAt,Option.some.injEq] at h;subst h;simp [placesOf,offOf]
  | .prod p q,off,i+1,u,h=>by
    simp only [typeAt] at h
    have:=placesOf_get q (off+p.size) i u h
    simp only [placesOf,List.getElem?_cons_succ,this,offOf]
    congr 2;omega
  | .unit,_,_,_,h=>by simp [typeAt] at h
  | .int _,_,_,_,h=>by simp [typeAt] at h
  | .bool,_,_,_,h=>by simp [typeAt] at h
  | .str,_,_,_,h=>by simp [typeAt] at h
  | .list _,_,_,_,h=>by simp [typeAt] at h
  | .raw,_,_,_,h=>by simp [typeAt] at h
  | .opq,_,_,_,h=>by simp [typeAt] at h
  | .dyn _ _,_,_,_,h=>by simp [typeAt] at h
  | .ptr _,_,_,_,h=>by simp [typeAt] at h
  | .clo _ _ _,_,_,_,h=>by simp [typeAt] at h
theorem run_places {m:Nat}:∀ (fs:List Field) (off:Nat) (t:Ty),tysOf (tyOf P m) off fs=some t->∀ w,
    (fs.mapM (m:=Sem) fun f=>do pure (f.offset,<- sizeOf f.type)).run P w = .ok (placesOf off t) w
  | [],off,t,h,w=>by simp [tysOf] at h;subst h;simp [placesOf]
  | x :: xs,off,t,h,w=>by
    unfold tysOf at h
    cases hx:tyOf P m x.type with
    | none=>rw [hx] at h;cases h
    | some u =>
      rw [hx] at h
      dsimp only at h
      split at h
      . rename_i hc
        cases hr:tysOf (tyOf P m) (off+u.size) xs with
        | none=>rw [hr] at h;cases h
        | some r =>
          rw [hr] at h;cases h
          have ih:=run_places xs _ r hr w
          simp at hc
          rw [List.mapM_cons]
          simp only [Sem.run_bind,run_sizeOf hx,Result.andThen_ok,Sem.run_pure,ih,placesOf,hc.1]
      . cases h
theorem typeAt_nprod (e:Ty):∀ (n i:Nat) (u:Ty),typeAt (nprod e n) i=some u->u=e/\offOf (nprod e n) i=i * e.size
  | 0,i,u,h=>by simp [nprod,typeAt] at h
  | n+1,0,u,h=>by simp only [nprod,typeAt,Option.some.injEq] at h;exact ⟨h.symm,by simp [nprod,offOf]⟩
  | n+1,i+1,u,h=>by
    simp only [nprod,typeAt] at h
    obtain ⟨h1,h2⟩:=typeAt_nprod e n i u h
    refine ⟨h1,?_⟩
    simp only [nprod,offOf,h2]
    rw [Nat.add_mul];omega
theorem op_build (hg:Good M0 F M st a w) (hb:Fr F w0 w) (hnb:NoBox st o) {T:TypeId} {ps:Array (Nat×Operand)} (ho:o.op = .build T ps)
    {c:Bool} {rd:Nat} {wr:List (Nat×S)} (h:vpre P Φ o st = .eff c rd wr):ORun P F M0 w0 o a w (app wr st):=by
  simp only [vpre,ho] at h
  split at h
  rotate_left
  . cases h
  rename_i t ht
  split at h
  rotate_left
  . cases h
  rename_i hz
  simp only [Bool.and_eq_true] at hz
  obtain ⟨hagg,hz⟩:=hz
  split at h
  rotate_left
  . cases h
  rename_i v hv
  obtain ⟨i,z,cs,hi,hzz,ez,ecs,r1,_⟩:=isZero_ok (M:=M) (w:=w) hz
  have hzr:(zeroValue T).run P w = .ok z w:=by simp [zeroValue,typeInfo,hi,hzz]
  obtain ⟨m,_,d,hd,hdt⟩:=tyOf_info ht
  have hmap:(ps.map fun p=>(p.1,a.eval p.2)).toList=ps.toList.map fun p=>(p.1,a.eval p.2):=by simp
  have key:∃ cs',(Instr.build T (ps.map fun p=>(p.1,a.eval p.2))).run P w = .ok (.agg cs'.toArray) w/\RepC M w t cs' v:=by
    cases d with
    | struct fs =>
      have hpl:∀ i u,typeAt t i=some u->(placesOf 0 t).toArray[i]? = some (offOf t i,u.size):=fun i u h=>by
        have:=placesOf_get t 0 i u h
        simpa using this
      obtain ⟨cs',f1,f2⟩:=setFs_fill hg (place:=fun i=>(placesOf 0 t).toArray[i]?) hpl ps.toList cs _ _ r1 hv
      refine ⟨cs',?_,f2⟩
      have hp:=run_places (P:=P) fs.toList 0 t hdt w
      have hp':(fs.mapM (m:=Sem) fun f=>do pure (f.offset,<- sizeOf f.type)).run P w = .ok (placesOf 0 t).toArray w:=by
        rw [Array.mapM_eq_mapM_toList,Sem.run_map,hp];rfl
      unfold Instr.build
      simp only [Sem.run_bind,hzr,Result.andThen_ok,run_underlying hd,ecs]
      rw [hp']
      simp only [Result.andThen_ok,hmap]
      rw [f1]
      rfl
    | array len E =>
      simp only [descTy] at hdt
      cases hE:tyOf P m E with
      | none=>rw [hE] at hdt;cases hdt
      | some e =>
        rw [hE] at hdt
        dsimp only at hdt
        split at hdt
        . cases hdt
        . cases hdt
          obtain ⟨cs',f1,f2⟩:=setFs_fill hg (place:=fun i=>some (i * e.size,e.size)) (fun i u h=>by obtain ⟨rfl,h2⟩:=typeAt_nprod e len i u h;rw [h2]) ps.toList cs _ _ r1 hv
          refine ⟨cs',?_,f2⟩
          unfold Instr.build
          simp only [Sem.run_bind,hzr,Result.andThen_ok,run_underlying hd,ecs,run_sizeOf hE,hmap]
          rw [f1]
          rfl
    | slice E =>
      obtain ⟨e,m',rfl,_⟩:=ty_slice ht hd
      simp [Ty.agg] at hagg
    | _=>simp [descTy] at hdt<;>subst hdt<;>simp [Ty.agg] at hagg
  obtain ⟨cs',k1,k2⟩:=key
  refine orun_put hg hb hnb h rfl (v:=.agg cs'.toArray) ?_ ⟨cs',by rw [toVal,if_pos hagg],k2⟩
  have:(ps.map fun (x:Nat×Operand)=>(x.1,a.eval x.2))=(ps.map fun p=>(p.1,a.eval p.2)):=rfl
  simp only [execOp,ho,Sem.run_bind,Sem.run_pure]
  rw [show (Array.map (fun x:Nat×Operand=>match x with|(i,x)=>(i,a.eval x)) ps)=(ps.map fun p=>(p.1,a.eval p.2)) from rfl,k1]
  rfl
end
end Go.V
namespace Go.V
open Go.RowKit (Below)
section
variable {P : Program} {Φ : Nat → List Spec} {F : Nat → Prop} {M0 : Base} {w0 : World} {M : Mut} {st : St} {a : Act} {w : World} {o : Oper}
def Segs (M:Mut) (w:World) (e:Ty):List (List Value)->List e.den->Prop
  | [],[]=>True
  | s :: ss,x :: xs=>RepC M w e s x/\Segs M w e ss xs
  | _,_=>False
theorem Segs.len {e:Ty}:∀ {ss:List (List Value)} {xs:List e.den},Segs M w e ss xs->ss.length=xs.length
  | [],[],_=>rfl
  | _ :: _,_ :: _,h=>by simp [Segs.len h.2]
  | [],_ :: _,h=>h.elim
  | _ :: _,[],h=>h.elim
theorem Segs.flat {e:Ty}:∀ {ss:List (List Value)} {xs:List e.den},Segs M w e ss xs->ss.flatten.length=xs.length * e.size
  | [],[],_=>by simp
  | s :: ss,x :: xs,h=>by
    simp only [List.flatten_cons,List.length_append,RepC.length _ _ _ h.1,Segs.flat h.2,List.length_cons]
    rw [Nat.add_mul];omega
  | [],_ :: _,h=>h.elim
  | _ :: _,[],h=>h.elim
theorem Segs.one {e:Ty}:∀ {ss:List (List Value)} {xs:List e.den},Segs M w e ss xs->∀ v∈ss.flatten,v.oneCell'=true
  | [],[],_,v,hv=>by simp at hv
  | s :: ss,x :: xs,h,v,hv=>by
    rw [List.flatten_cons,List.mem_append] at hv
    rcases hv with hv|hv
    . exact (RepC.one _ _ _ h.1 v hv).1
    . exact Segs.one h.2 v hv
  | [],_ :: _,h,_,_=>h.elim
  | _ :: _,[],h,_,_=>h.elim
theorem Segs.app {e:Ty}:∀ {ss ts:List (List Value)} {xs ys:List e.den},Segs M w e ss xs->Segs M w e ts ys->Segs M w e (ss++ts) (xs++ys)
  | [],_,[],_,_,k=>k
  | s :: ss,_,x :: xs,_,h,k=>⟨h.1,Segs.app h.2 k⟩
  | [],_,_ :: _,_,h,_=>h.elim
  | _ :: _,_,[],_,h,_=>h.elim
theorem Segs.mono {M':Mut} {w':World} (hs:Stable M w M' w') {e:Ty}:∀ {ss:List (List Value)} {xs:List e.den},Segs M w e ss xs->Segs M' w' e ss xs
  | [],[],_=>trivial
  | s :: ss,x :: xs,h=>⟨RepC.mono hs _ _ _ h.1,Segs.mono hs h.2⟩
  | [],_ :: _,h=>h.elim
  | _ :: _,[],h=>h.elim
theorem Segs.get {e:Ty}:∀ {ss:List (List Value)} {xs:List e.den},Segs M w e ss xs->∀ (i:Nat) (hi:i<xs.length) (hj:i<ss.length),RepC M w e ss[i] xs[i]
  | s :: ss,x :: xs,h,0,_,_=>h.1
  | s :: ss,x :: xs,h,i+1,hi,hj=>by simpa using Segs.get h.2 i (by simpa using hi) (by simpa using hj)
  | [],[],_,i,hi,_=>absurd hi (by simp)
  | [],_ :: _,h,_,_,_=>h.elim
  | _ :: _,[],h,_,_,_=>h.elim
theorem flat_get (sz:Nat):∀ (ss:List (List Value)),(∀ s∈ss,s.length=sz)->∀ (i j:Nat) (hi:i<ss.length) (hj:j<sz),ss.flatten[i * sz+j]? = (ss[i])[j]?
  | s :: ss,h,0,j,_,hj=>by
    have:=h s (by simp)
    simp [List.getElem?_append,this,hj]
  | s :: ss,h,i+1,j,hi,hj=>by
    have hl:=h s (by simp)
    have:=flat_get sz ss (fun s hs=>h s (by simp [hs])) i j (by simpa using hi) hj
    rw [List.flatten_cons,List.getElem?_append_right (by rw [hl,Nat.add_mul];omega),hl]
    rw [show (i+1) * sz+j - sz=i * sz+j from by rw [Nat.add_mul];omega]
    simpa using this
  | [],_,i,_,hi,_=>absurd hi (by simp)
theorem Segs.sizes {e:Ty}:∀ {ss:List (List Value)} {xs:List e.den},Segs M w e ss xs->∀ s∈ss,s.length=e.size
  | [],[],_,s,hs=>by simp at hs
  | t :: ss,x :: xs,h,s,hs=>by
    rcases List.mem_cons.1 hs with rfl|hs
    . exact RepC.length _ _ _ h.1
    . exact Segs.sizes h.2 s hs
  | [],_ :: _,h,_,_=>h.elim
  | _ :: _,[],h,_,_=>h.elim
theorem list_segs {e:Ty} {v:Value} {xs:List e.den} (h:RepC M w (.list e) [v] xs) :
    ∃ ss p cap,v = .slice p xs.length cap/\xs.length<=cap/\Segs M w e ss xs/\(0<xs.length->∃ b o,p=some ⟨b,o,none⟩/\∀ j u,ss.flatten[j]? = some u->w.cell? ⟨b,o+j,none⟩=some u/\¬ M b (o+j)):=by
  obtain ⟨p,cap,f1,f2,f3⟩:=h
  simp only [List.cons.injEq,and_true] at f1
  have key:∀ n (ys:List e.den),ys.length=n->n<=xs.length->(∀ i (hi:i<ys.length) (hx:i<xs.length),ys[i]=xs[i]) ->
      ∃ ss,Segs M w e ss ys/\∀ b o,p=some ⟨b,o,none⟩->∀ j u,ss.flatten[j]? = some u->w.cell? ⟨b,o+j,none⟩=some u/\¬ M b (o+j):=by
    intro n
    induction n with
    | zero=>intro ys h0 _ _;have:ys=[]:=List.eq_nil_of_length_eq_zero h0;subst this;exact ⟨[],trivial,fun _ _ _ j u hj=>by simp at hj⟩
    | succ n ih =>
      intro ys hl hle hy
      have hne:ys≠[]:=by intro h';subst h';simp at hl
      obtain ⟨ss,s1,s2⟩:=ih ys.dropLast (by simp [hl]) (by omega) (fun i hi hx=>by
        rw [List.getElem_dropLast];exact hy i (by simp at hi;omega) hx)
      have hlast:ys.getLast hne=xs[n]'(by omega):=by
        rw [List.getLast_eq_getElem]
        have:=hy n (by omega) (by omega)
        simp only [hl]
        exact this
      obtain ⟨b,o,ec,g1,g2,g3,g4⟩:=f3 n (by omega)
      refine ⟨ss++[ec],?_,fun b' o' hp j u hj=>?_⟩
      . rw [<- List.dropLast_concat_getLast hne]
        exact s1.app ⟨by rw [hlast];exact g4,trivial⟩
      . rw [g1] at hp;cases hp
        rw [List.flatten_append,List.getElem?_append] at hj
        split at hj
        . exact s2 b o g1 j u hj
        . rename_i hge
          have hfl:=s1.flat
          rw [List.length_dropLast,hl] at hfl
          simp only [Nat.add_sub_cancel] at hfl
          simp only [List.flatten_cons,List.flatten_nil,List.append_nil] at hj
          obtain ⟨hlt,e'⟩:=List.getElem?_eq_some_iff.1 hj
          have:=g3 (j - ss.flatten.length) hlt
          rw [e'] at this
          rw [show o+n * e.size+(j - ss.flatten.length)=o+j from by omega] at this
          exact this
  obtain ⟨ss,s1,s2⟩:=key xs.length xs rfl (Nat.le_refl _) (fun _ _ _=>rfl)
  refine ⟨ss,p,cap,f1,f2,s1,fun hpos=>?_⟩
  obtain ⟨b,o,ec,g1,_⟩:=f3 0 hpos
  exact ⟨b,o,g1,s2 b o g1⟩
theorem segs_list {e:Ty} {ss:List (List Value)} {xs:List e.den} {b o cap:Nat} (h:Segs M w e ss xs) (hcap:xs.length<=cap)
    (hc:∀ j u,ss.flatten[j]? = some u->w.cell? ⟨b,o+j,none⟩=some u/\¬ M b (o+j)):RepC M w (.list e) [.slice (some ⟨b,o,none⟩) xs.length cap] xs:=by
  refine ⟨_,cap,rfl,hcap,fun i hi=>?_⟩
  have hlen:=h.len
  have hsz:=h.sizes
  refine ⟨b,o,ss[i]'(by omega),rfl,hsz _ (List.getElem_mem _),fun j hj=>?_,h.get i hi (by omega)⟩
  have hjs:j<e.size:=by rw [hsz _ (List.getElem_mem _)] at hj;exact hj
  have:=flat_get e.size ss hsz i j (by omega) hjs
  rw [List.getElem?_eq_getElem hj] at this
  have:=hc _ _ this
  rw [show o+(i * e.size+j)=o+i * e.size+j from by omega] at this
  exact this
theorem new_row (hg:Good M0 F M st a w) (hb:Fr F w0 w) (hnb:NoBox st o) {e:Ty} {ss:List (List Value)} {xs:List e.den} (hs:Segs M w e ss xs) {cap:Nat} {extra:List Value} {E:TypeId}
    (hcap:xs.length<=cap) (hm:cap<=maxLen) (hsz:(ss.flatten++extra).length=cap * e.size) :
    ∃ M',Good M0 F M' (app (o.dst.toList.map (·,S.own e xs true)) st) (a.put o.dst (.slice (some ⟨w.heap.size,0,none⟩) xs.length cap)) (w.alloc (.cells (ss.flatten++extra).toArray E)):=by
  have h1:=hg.alloc (.cells (ss.flatten++extra).toArray E) (fun o=>xs.length * e.size<=o)
  have hst:=stable_alloc M w (.cells (ss.flatten++extra).toArray E) (fun o=>xs.length * e.size<=o)
  have hnew:=heap_alloc_new w (.cells (ss.flatten++extra).toArray E)
  refine ⟨_,h1.fin_own hnb (segs_list (hs.mono hst) hcap fun j u hj=>?_) (.inr ⟨w.heap.size,cap,_,E,rfl,hnew,hcap,hm,by simpa using hsz,fun o ho=>.inr ⟨rfl,ho⟩⟩) ?_⟩
  . have hlt:j<ss.flatten.length:=(List.getElem?_eq_some_iff.1 hj).1
    rw [Nat.zero_add,cell_of_row _ _ j _ E (0,0) hnew]
    refine ⟨by simp only [List.getElem?_toArray,List.getElem?_append_left hlt];exact hj,?_⟩
    rintro (hm|⟨_,hge⟩)
    . have:=hg.lt _ _ hm;omega
    . rw [hs.flat] at hlt;omega
  . intro b hbb
    simp [ownB] at hbb
    subst hbb
    exact ⟨fun hF=>absurd (hg.room _ hF) (Nat.lt_irrefl _),fun j l ho=>absurd (owns_lt hg.slot (owns_world (fun i b ho'=>heap_alloc_old w _ b (owns_lt hg.slot ho')) ho)) (by omega)⟩
theorem seg_at {e:Ty} {ss:List (List Value)} {xs:List e.den} (hs:Segs M w e ss xs) (extra:List Value) (i:Nat) (hi:i<xs.length) :
    RepC M w e (((ss.flatten++extra).drop (i * e.size)).take e.size) xs[i]:=by
  have hlen:=hs.len
  have hsz:=hs.sizes
  have:((ss.flatten++extra).drop (i * e.size)).take e.size=ss[i]'(by omega):=by
    apply List.ext_getElem?
    intro j
    rw [List.getElem?_take]
    have hl:(ss[i]'(by omega)).length=e.size:=hsz _ (List.getElem_mem _)
    split
    . rename_i hj
      have hb:i * e.size+j<ss.flatten.length:=by
        rw [hs.flat]
        have:(i+1) * e.size<=xs.length * e.size:=Nat.mul_le_mul_right _ hi
        rw [Nat.add_mul] at this
        omega
      rw [List.getElem?_drop,List.getElem?_append_left hb]
      exact flat_get e.size ss hsz i j (by omega) hj
    . rw [List.getElem?_eq_none (by omega)]
  rw [this]
  exact hs.get i hi (by omega)
theorem new_row_arr (hg:Good M0 F M st a w) (hb:Fr F w0 w) (hnb:NoBox st o) {e:Ty} {ss:List (List Value)} {xs:List e.den} (hs:Segs M w e ss xs) {cap:Nat} {extra:List Value} {E:TypeId}
    (hcap:xs.length<=cap) (hm:cap<=maxLen) (hsz:(ss.flatten++extra).length=cap * e.size) :
    ∃ M',Good M0 F M' (app (o.dst.toList.map (·,S.arr e xs true)) st) (a.put o.dst (.slice (some ⟨w.heap.size,0,none⟩) xs.length cap)) (w.alloc (.cells (ss.flatten++extra).toArray E)):=by
  have h1:=hg.alloc (.cells (ss.flatten++extra).toArray E) (fun _=>True)
  have hst:=stable_alloc M w (.cells (ss.flatten++extra).toArray E) (fun _=>True)
  have hnew:=heap_alloc_new w (.cells (ss.flatten++extra).toArray E)
  refine ⟨_,h1.fin_arr hnb (.inr ⟨w.heap.size,cap,_,E,rfl,hnew,hcap,hm,by simpa using hsz,fun o=>.inr ⟨rfl,trivial⟩,fun i hi=>?_⟩) ?_⟩
  . have:=seg_at (hs.mono hst) extra i hi
    simpa using this
  . intro b hbb
    simp [ownB] at hbb
    subst hbb
    exact ⟨fun hF=>absurd (hg.room _ hF) (Nat.lt_irrefl _),fun j l ho=>absurd (owns_lt hg.slot (owns_world (fun i b ho'=>heap_alloc_old w _ b (owns_lt hg.slot ho')) ho)) (by omega)⟩
theorem fill_all (sz:Nat):∀ (vs:List (Value×List Value)) (k:Nat) (pre rest:List Value),pre.length=k * sz->rest.length=vs.length * sz->(∀ p∈vs,p.1.cells=p.2.toArray/\p.2.length=sz) ->
    Instr.fill (fun i=>some (i * sz,sz)) (pre++rest).toArray ((vs.zipIdx k).map fun p=>(p.2,p.1.1))=some (pre++(vs.map (·.2)).flatten).toArray
  | [],k,pre,rest,_,h2,_=>by
    have:rest=[]:=List.eq_nil_of_length_eq_zero (by simpa using h2)
    subst this
    simp [Instr.fill]
  | p :: vs,k,pre,rest,h1,h2,h3=>by
    obtain ⟨g1,g2⟩:=h3 p (by simp)
    simp only [List.length_cons,Nat.add_mul,Nat.one_mul] at h2
    rw [List.zipIdx_cons,List.map_cons,fill_step (off:=k * sz) (size:=sz) rfl g1 g2 (by simp;omega)]
    have e1:(pre++rest).toArray.toList.take (k * sz)=pre:=by simp [<- h1]
    have e2:(pre++rest).toArray.toList.drop (k * sz+sz)=rest.drop sz:=by
      simp only [<- h1]
      rw [<- List.drop_drop];simp
    rw [e1,e2]
    have:=fill_all sz vs (k+1) (pre++p.2) (rest.drop sz) (by simp [h1,g2,Nat.add_mul]) (by simp;omega) (fun q hq=>h3 q (by simp [hq]))
    rw [this]
    simp
theorem mapM_segs (hg:Good M0 F M st a w) {e:Ty}:∀ (ps:List (Nat×Operand)) (xs:List e.den),ps.mapM (fun p=>(opnd st p.2).as e)=some xs ->
    ∃ ss,Segs M w e ss xs/\ss.length=ps.length/\∀ q∈(ps.map (fun p=>a.eval p.2)).zip ss,q.1.cells=q.2.toArray/\q.2.length=e.size
  | [],xs,h=>by simp at h;subst h;exact ⟨[],trivial,rfl,by simp⟩
  | p :: ps,xs,h=>by
    rw [List.mapM_cons] at h
    cases hx:(opnd st p.2).as e with
    | none=>rw [hx] at h;cases h
    | some y =>
      rw [hx] at h
      cases hr:ps.mapM (fun p=>(opnd st p.2).as e) with
      | none=>simp [hr] at h
      | some ys =>
        simp [hr] at h
        subst h
        obtain ⟨ss,s1,s2,s3⟩:=mapM_segs hg ps ys hr
        obtain ⟨cs,c1,c2⟩:=as_ok (opnd_ok hg p.2) hx
        refine ⟨cs :: ss,⟨c2,s1⟩,by simp [s2],fun q hq=>?_⟩
        simp only [List.map_cons,List.zip_cons_cons,List.mem_cons] at hq
        rcases hq with rfl|hq
        . exact ⟨by rw [c1];exact toVal_cells c2,RepC.length _ _ _ c2⟩
        . exact s3 q hq
theorem buildSlice_core (hg:Good M0 F M st a w) (hb:Fr F w0 w) (hnb:NoBox st o) {T:TypeId} {n:Nat} {ps:Array (Nat×Operand)} (ho:o.op = .buildSlice T n ps)
    {k:Nat} {e:Ty} (ht:tyOf P k T=some (.list e)) (hn:n=ps.size) (hn2:n * e.size<=10000) (hidx:ps.toList.map (·.1)=List.range n) {xs:List e.den} (hxs:ps.toList.mapM (fun p=>(opnd st p.2).as e)=some xs) :
    ORun P F M0 w0 o a w (app (o.dst.toList.map (·,S.own e xs true)) st):=by
  obtain ⟨E,m,hu,hE,hpos⟩:=ty_list ht
  obtain ⟨i,hi,hsz,_,z,hz,hzs⟩:=ty_info hE
  obtain ⟨ss,s1,s2,s3⟩:=mapM_segs hg ps.toList xs hxs
  have hlen:=s1.len
  have hnl:ps.toList.length=n:=by simp [hn]
  have hxl:xs.length=n:=by rw [<- hlen,s2,hnl]
  have hnm:n<=maxLen:=by
    have:n<=n * e.size:=Nat.le_mul_of_pos_right n hpos
    unfold maxLen;omega
  obtain ⟨M',hg'⟩:=new_row hg hb hnb (o:=o) s1 (cap:=n) (extra:=[]) (E:=E) (by omega) hnm (by rw [List.append_nil,s1.flat,hxl])
  rw [List.append_nil,hxl] at hg'
  refine ⟨.slice (some ⟨w.heap.size,0,none⟩) n n,w.alloc (.cells ss.flatten.toArray E),.inl ?_,hb.alloc hg.room _,M',hg'⟩
  have hgt:¬ n * e.size > 2 ^ 24:=by omega
  have hps:(ps.map fun p=>(p.1,a.eval p.2)).toList=((((ps.toList.map fun p=>a.eval p.2).zip ss).zipIdx 0).map fun p=>(p.2,p.1.1)):=by
    apply List.ext_getElem
    . simp [s2]
    . intro j h1 h2
      simp at h1
      have:(ps.toList.map (·.1))[j]'(by simpa using h1)=(List.range n)[j]'(by simp;omega):=by simp only [hidx]
      simp at this
      simp [this]
  have hfill:∀ (tmpl:Array Value),tmpl.size=n * e.size->Instr.fill (fun i=>some (i * e.size,e.size)) tmpl (ps.map fun p=>(p.1,a.eval p.2)).toList=some ss.flatten.toArray:=by
    intro tmpl ht
    have:=fill_all e.size ((ps.toList.map fun p=>a.eval p.2).zip ss) 0 [] tmpl.toList (by simp) (by simp [ht,s2,hn]) s3
    rw [hps]
    simp only [List.nil_append,Array.toArray_toList] at this
    rw [this]
    congr 2
    congr 1
    rw [List.map_snd_zip]
    simp [s2]
  have hrun:(Instr.buildSlice T n (ps.map fun p=>(p.1,a.eval p.2))).run P w = .ok (.slice (some ⟨w.heap.size,0,none⟩) n n) (w.alloc (.cells ss.flatten.toArray E)):=by
    unfold Instr.buildSlice
    simp only [Sem.run_bind,run_underlying hu,Result.andThen_ok,run_sizeOf hE,Sem.run_ite,if_neg hgt,Sem.run_pure]
    by_cases h0:n * e.size=0
    . simp only [if_pos h0,Result.andThen_ok]
      rw [hfill _ (by simp)]
      rfl
    . simp only [if_neg h0,Sem.run_bind,zeroValue,typeInfo,run_program,Result.andThen_ok,hi,Sem.run_pure,hz]
      rw [hfill _ (by simp)]
      rfl
  simp only [execOp,ho,Sem.run_bind,Sem.run_pure]
  rw [show (Array.map (fun x:Nat×Operand=>match x with|(i,x)=>(i,a.eval x)) ps)=(ps.map fun p=>(p.1,a.eval p.2)) from rfl,hrun]
  rfl
theorem op_buildSlice (hg:Good M0 F M st a w) (hb:Fr F w0 w) (hnb:NoBox st o) {T:TypeId} {n:Nat} {ps:Array (Nat×Operand)} (ho:o.op = .buildSlice T n ps)
    {c:Bool} {rd:Nat} {wr:List (Nat×S)} (h:vpre P Φ o st = .eff c rd wr):ORun P F M0 w0 o a w (app wr st):=by
  simp only [vpre,ho] at h
  split at h
  . rename_i e ht
    split at h
    . rename_i hc
      split at h
      . rename_i xs hxs
        simp only [Pre.eff.injEq] at h
        obtain ⟨_,_,rfl⟩:=h
        exact buildSlice_core hg hb hnb ho ht hc.1 hc.2.1 hc.2.2 hxs
      . cases h
    . cases h
  . cases h
theorem src_cells {e:Ty} {v:Value} {xs:List e.den} (h:RepV M w (.list e) v xs):∃ ss,Segs M w e ss xs/\(∀ w',(Builtin.lenOf v).run P w' = .ok xs.length w') /\
    ∀ w',(∀ p,w'.cell? p=w.cell? p)->(Builtin.firstCells e.size xs.length v).run P w' = .ok ss.flatten.toArray w':=by
  obtain ⟨ss,p,cap,f1,f2,f3,f4⟩:=list_segs (repC_list h)
  subst f1
  refine ⟨ss,f3,fun w'=>rfl,fun w' hw'=>?_⟩
  have hfl:=f3.flat
  by_cases hpos:0<xs.length
  . obtain ⟨b,o,rfl,g⟩:=f4 hpos
    exact run_firstCells_some (P:=P) w' e.size xs.length ⟨b,o,none⟩ xs.length cap ss.flatten hfl fun j u hj=>by
      rw [add_lit,hw'];exact (g j u hj).1
  . have h0:xs.length=0:=by omega
    rw [h0,Nat.zero_mul] at hfl
    have:ss.flatten=[]:=List.eq_nil_of_length_eq_zero hfl
    rw [this,h0]
    cases p with
    | none=>rfl
    | some p=>simp [Builtin.firstCells,loadCells,loadCellsFrom]
end
end Go.V
namespace Go.V
open Go.RowKit (Below)
section
variable {P : Program} {Φ : Nat → List Spec} {F : Nat → Prop} {M0 : Base} {w0 : World} {M : Mut} {st : St} {a : Act} {w : World} {o : Oper}
theorem run_append_room (T ty E:TypeId) (i:TypeInfo) (ht:P.underlying T=some (.slice E)) (hi:P.info? E=some i) {g sLen sCap n:Nat} {cur:Array Value} {T':TypeId}
    (hh:w.heap[g]? = some (.cells cur T' (0,0))) {y:Value} {news:List Value} (hl:(Builtin.lenOf y).run P w = .ok n w) (hy:(Builtin.firstCells i.size n y).run P w = .ok news.toArray w)
    (h1:∀ u∈news,u.oneCell'=true) (hroom:sLen+n<=sCap) (hfit:sLen * i.size+news.length<=cur.size) :
    (Builtin.append_ #[T,T] ty #[.slice (some ⟨g,0,none⟩) sLen sCap,y]).run P w =
      .ok (.slice (some ⟨g,0,none⟩) (sLen+n) sCap) (w.setRow g (cur.toList.take (sLen * i.size)++news++cur.toList.drop (sLen * i.size+news.length)).toArray):=by
  have hst:=run_storeCells_at P g (sLen * i.size) T' news 0 cur w hh (by simpa using hfit) h1
  simp only [Nat.add_zero] at hst
  simp [Builtin.append_,run_underlying ht,sizeOf,typeInfo,hi,hl,hroom,hy,add_lit,hst]
theorem run_append_more (T ty E:TypeId) (i:TypeInfo) (z:Value) (ht:P.underlying T=some (.slice E)) (hi:P.info? E=some i) (hz:i.zero=some z) {base:Option Addr} {sLen sCap n:Nat}
    {y:Value} {olds news:List Value} (hl:(Builtin.lenOf y).run P w = .ok n w) (hy:(Builtin.firstCells i.size n y).run P w.drew = .ok news.toArray w.drew)
    (ho:(Builtin.firstCells i.size sLen (.slice base sLen sCap)).run P w.drew = .ok olds.toArray w.drew)
    (hg:sCap<sLen+n) (h63:sLen+n<1000000) (hby:i.bytes<=1000) :
    (Builtin.append_ #[T,T] ty #[.slice base sLen sCap,y]).run P w =
      .ok (.slice (some ⟨w.heap.size,0,none⟩) (sLen+n) (grownCap w (sLen+n) sCap E))
        (w.drew.alloc (.cells ((olds++news)++(Builtin.zeroCells z.cells (grownCap w (sLen+n) sCap E - (sLen+n))).toList).toArray E)):=by
  have hn:¬ (sLen+n<=sCap):=by omega
  have h63':¬ (9223372036854775807<((sLen:Int)+(n:Int))):=by omega
  have hbb:(sLen+n) * i.bytes<=140737488355328:=by
    have:(sLen+n) * i.bytes<=1000000 * 1000:=Nat.mul_le_mul (by omega) hby
    omega
  have h48':¬ (281474976710656<Builtin.nextslicecap (sLen+n) sCap * i.bytes):=by
    have:=growslice_fits hg hbb;omega
  simp [Builtin.append_,run_underlying ht,sizeOf,typeInfo,zeroValue,hi,hz,hl,hn,h63',h48',Question.forced,hy,ho,newRow,grownCap]
  congr 2
  apply Array.ext'
  simp
theorem append_nil_arr (hg:Good M0 F M st a w) (hb:Fr F w0 w) (hnb:NoBox st o) {k:Nat} {T:TypeId} {e:Ty} (ht:tyOf P k T=some (.list e)) {x y:Operand} {cl:Call} (ho:o.op = .call cl)
    (h1:cl.callee = .builtin .append) (h2:cl.argTypes = #[T,T]) (h3:cl.args = #[x,y]) {ys:List e.den} (ex:a.eval x = .slice none 0 0) (hy:RepV M w (.list e) (a.eval y) ys) (hf:fits ([]:List e.den) ys=true) :
    ORun P F M0 w0 o a w (app (o.dst.toList.map (·,S.arr e ys true)) st):=by
  obtain ⟨E,m,hu,hE,hpos⟩:=ty_list ht
  obtain ⟨i,hi,hsz,hby,z,hz,hzs⟩:=ty_info hE
  have hf':ys.length<1000000:=by simpa [fits] using hf
  obtain ⟨sy,y1,y2,y3⟩:=src_cells (P:=P) hy
  have hyl:=y1.flat
  have hrun:∀ v w',(Builtin.append_ #[T,T] o.type #[a.eval x,a.eval y]).run P w = .ok v w'->(execOp a.eval o).run P w = .ok (.value v) w':=fun v w' e=>by
    obtain ⟨callee,args,argTypes⟩:=cl
    simp only at h1 h2 h3
    subst h1;subst h2;subst h3
    simp [execOp,ho,resolve,invoke,builtin,e]
  by_cases hy0:ys.length=0
  . have hyn:ys=[]:=List.eq_nil_of_length_eq_zero hy0
    subst hyn
    refine ⟨.slice none 0 0,w,.inl (hrun _ _ ?_),hb,M,hg.fin_arr hnb (.inl ⟨rfl,rfl⟩) (by simp [ownB])⟩
    have hfl:sy.flatten=[]:=List.eq_nil_of_length_eq_zero (by rw [hyl];simp)
    have hy2:=y2 w
    have hy3:=y3 w fun _=>rfl
    rw [hfl] at hy3
    simp only [List.length_nil] at hy2 hy3
    rw [ex]
    simp [Builtin.append_,run_underlying hu,sizeOf,typeInfo,hi,hy2,hsz,hy3]
  . have hx0:(Builtin.firstCells e.size 0 (.slice none 0 0)).run P w.drew = .ok ([]:List Value).toArray w.drew:=by
      obtain ⟨sx,x1,x2,x3⟩:=src_cells (P:=P) (repV_list (RepC.list_nil (M:=M) (w:=w) e))
      have hsx:sx=[]:=List.eq_nil_of_length_eq_zero x1.len
      have:=x3 w.drew fun _=>rfl
      rw [hsx] at this
      exact this
    have hr:=run_append_more (P:=P) (w:=w) T o.type E i z hu hi hz (y2 w) (by rw [hsz];exact y3 w.drew fun _=>rfl) (base:=none) (sLen:=0) (sCap:=0)
      (by rw [hsz];exact hx0) (by omega) (by omega) hby
    have hcap:grownCap w (0+ys.length) 0 E<=maxLen:=grownCap_le_maxLen w _ _ _ (by unfold maxLen;omega)
    have hge:=grownCap_ge w (0+ys.length) 0 E
    have hstd:Stable M w M w.drew:=fun _ _ _ p q=>⟨p,q⟩
    have hz2:(Builtin.zeroCells z.cells (grownCap w (0+ys.length) 0 E - (0+ys.length))).toList.length=(grownCap w (0+ys.length) 0 E - (0+ys.length)) * e.size:=by
      rw [Array.length_toList,size_zeroCells,hzs]
    obtain ⟨M',hg'⟩:=new_row_arr hg.drew hb.drew hnb (o:=o) (E:=E) (e:=e) (xs:=ys) (y1.mono hstd) (cap:=grownCap w (0+ys.length) 0 E)
      (extra:=(Builtin.zeroCells z.cells (grownCap w (0+ys.length) 0 E - (0+ys.length))).toList) (by simpa using hge) hcap (by
        rw [List.length_append,hyl,hz2,<- Nat.add_mul]
        congr 1;omega)
    rw [<- ex] at hr
    refine ⟨_,_,.inl (hrun _ _ hr),hb.drew.alloc hg.room _,M',?_⟩
    simpa using hg'
theorem append_core (hg:Good M0 F M st a w) (hb:Fr F w0 w) (hnb:NoBox st o) {k:Nat} {T:TypeId} {e:Ty} (ht:tyOf P k T=some (.list e)) {x y:Operand} {cl:Call} (ho:o.op = .call cl)
    (h1:cl.callee = .builtin .append) (h2:cl.argTypes = #[T,T]) (h3:cl.args = #[x,y]) {xs ys:List e.den} (hx:RepC M w (.list e) [a.eval x] xs) (hox:OwnAt M w e.size (a.eval x) xs.length)
    (hfree:∀ b,ownB (a.eval x)=some b->¬ F b/\∀ j l,¬ owns st a w j l b) (hy:RepV M w (.list e) (a.eval y) ys) (hf:fits xs ys=true) :
    ORun P F M0 w0 o a w (app (o.dst.toList.map (·,S.own e (xs++ys) true)) st):=by
  obtain ⟨E,m,hu,hE,hpos⟩:=ty_list ht
  obtain ⟨i,hi,hsz,hby,z,hz,hzs⟩:=ty_info hE
  have hf':xs.length+ys.length<1000000:=by simpa [fits] using hf
  obtain ⟨sy,y1,y2,y3⟩:=src_cells (P:=P) hy
  have hyl:=y1.flat
  have hrun:∀ v w',(Builtin.append_ #[T,T] o.type #[a.eval x,a.eval y]).run P w = .ok v w'->(execOp a.eval o).run P w = .ok (.value v) w':=fun v w' e=>by
    obtain ⟨callee,args,argTypes⟩:=cl
    simp only at h1 h2 h3
    subst h1;subst h2;subst h3
    simp [execOp,ho,resolve,invoke,builtin,e]
  have more:∀ (p:Option Addr) (cap:Nat),a.eval x = .slice p xs.length cap->cap<xs.length+ys.length->ORun P F M0 w0 o a w (app (o.dst.toList.map (·,S.own e (xs++ys) true)) st):=by
    intro p cap ex hlt
    obtain ⟨sx,x1,x2,x3⟩:=src_cells (P:=P) (repV_list hx)
    have hr:=run_append_more (P:=P) (w:=w) T o.type E i z hu hi hz (y2 w) (by rw [hsz];exact y3 w.drew fun _=>rfl) (base:=p) (sLen:=xs.length) (sCap:=cap)
      (by rw [hsz,<- ex];exact x3 w.drew fun _=>rfl) hlt hf' hby
    have hcap:grownCap w (xs.length+ys.length) cap E<=maxLen:=grownCap_le_maxLen w _ _ _ (by unfold maxLen;omega)
    have hge:=grownCap_ge w (xs.length+ys.length) cap E
    have hall:=x1.app y1
    have hstd:Stable M w M w.drew:=fun _ _ _ p q=>⟨p,q⟩
    have hz2:(Builtin.zeroCells z.cells (grownCap w (xs.length+ys.length) cap E - (xs.length+ys.length))).toList.length=(grownCap w (xs.length+ys.length) cap E - (xs.length+ys.length)) * e.size:=by
      rw [Array.length_toList,size_zeroCells,hzs]
    obtain ⟨M',hg'⟩:=new_row hg.drew hb.drew hnb (o:=o) (E:=E) (e:=e) (xs:=xs++ys) (hall.mono hstd) (cap:=grownCap w (xs.length+ys.length) cap E)
      (extra:=(Builtin.zeroCells z.cells (grownCap w (xs.length+ys.length) cap E - (xs.length+ys.length))).toList) (by simpa using hge) hcap (by
        rw [List.length_append,hall.flat,hz2,List.length_append,<- Nat.add_mul]
        congr 1;omega)
    rw [List.length_append,List.flatten_append] at hg'
    rw [<- ex] at hr
    exact ⟨_,_,.inl (hrun _ _ hr),hb.drew.alloc hg.room _,M',hg'⟩
  rcases hox with ⟨ex,h0⟩|⟨g,cap,cur,T',ex,e2,e3,e4,e5,e6⟩
  . have hxn:xs=[]:=List.eq_nil_of_length_eq_zero h0
    by_cases hy0:ys.length=0
    . have hyn:ys=[]:=List.eq_nil_of_length_eq_zero hy0
      subst hxn;subst hyn
      refine ⟨.slice none 0 0,w,.inl (hrun _ _ ?_),hb,M,hg.fin_own hnb (RepC.list_nil e) (.inl ⟨rfl,rfl⟩) (by simp [ownB])⟩
      have hfl:sy.flatten=[]:=List.eq_nil_of_length_eq_zero (by rw [hyl];simp)
      have hy2:=y2 w
      have hy3:=y3 w fun _=>rfl
      rw [hfl] at hy3
      simp only [List.length_nil] at hy2 hy3
      rw [ex]
      simp [Builtin.append_,run_underlying hu,sizeOf,typeInfo,hi,hy2,hsz,hy3]
    . exact more none 0 (by rw [h0];exact ex) (by omega)
  . by_cases hroom:xs.length+ys.length<=cap
    rotate_left
    . exact more _ cap ex (by omega)
    obtain ⟨sx,p,cap',f1,f2,f3,f4⟩:=list_segs hx
    rw [ex] at f1
    simp only [Value.slice.injEq] at f1
    obtain ⟨f1a,_,f1c⟩:=f1
    subst f1c
    have hmul:xs.length * e.size+ys.length * e.size<=cap * e.size:=by rw [<- Nat.add_mul];exact Nat.mul_le_mul_right _ hroom
    have hr:=run_append_room (P:=P) T o.type E i hu hi e2 (y2 w) (by rw [hsz];exact y3 w fun _=>rfl) y1.one hroom (by rw [hsz,hyl,e5];exact hmul)
    rw [<- ex,hsz,hyl] at hr
    have hsame:=setRow_heap w g cur (cur.toList.take (xs.length * e.size)++sy.flatten++cur.toList.drop (xs.length * e.size+ys.length * e.size)).toArray T' (0,0) e2
    generalize hrow:(cur.toList.take (xs.length * e.size)++sy.flatten++cur.toList.drop (xs.length * e.size+ys.length * e.size)).toArray=row at hr hsame
    have hother:∀ b,b≠g->(w.setRow g row).heap[b]? = w.heap[b]? := fun b hbg=>setRow_other w g b row hbg
    have hown:ownB (a.eval x)=some g:=by rw [ex];rfl
    obtain ⟨hge,hnone⟩:=hfree g hown
    have htl:(cur.toList.take (xs.length * e.size)).length=xs.length * e.size:=by simp;omega
    have hrl:∀ j,j<xs.length * e.size->row[j]? = cur[j]? := fun j hj=>by
      rw [<- hrow]
      simp only [List.getElem?_toArray,List.append_assoc]
      rw [List.getElem?_append_left (by omega)]
      simp [List.getElem?_take,hj]
    have hrm:∀ j,j<ys.length * e.size->row[xs.length * e.size+j]? = sy.flatten[j]? := fun j hj=>by
      rw [<- hrow]
      simp only [List.getElem?_toArray,List.append_assoc]
      rw [List.getElem?_append_right (by omega),htl,List.getElem?_append_left (by omega)]
      congr 1;omega
    have hst:Stable M w (fun b o=>M b o/\¬ (b=g/\o<(xs.length+ys.length) * e.size)) (w.setRow g row):=by
      intro b o v h1 h2
      refine ⟨?_,fun h=>h2 h.1⟩
      by_cases hbg:b=g
      . subst hbg
        rw [cell_of_row w b o cur T' (0,0) e2] at h1
        rw [cell_of_row _ b o row T' (0,0) hsame]
        have:o<xs.length * e.size:=by
          rcases Nat.lt_or_ge o (xs.length * e.size) with h'|h'
          . exact h'
          . exact absurd (e6 o h') h2
        rw [hrl o this];exact h1
      . rw [World.cell?_of_block (w:=w) (a:=⟨b,o,none⟩) (hother b hbg)];exact h1
    have hg1:Good M0 F (fun b o=>M b o/\¬ (b=g/\o<(xs.length+ys.length) * e.size)) st a (w.setRow g row):=by
      refine hg.world hst (by simp) (fun b o hm=>⟨hg.up b o hm,fun h=>?_⟩) (fun b o h=>by have:=hg.lt b o h.1;simpa using this) (fun b o hlt h=>hg.down b o hlt h.1) (KeepsD.but e2 (by simp) fun k _ hk=>hother k hk) fun i k b ho=>?_
      . exact hge (h.1 ▸ hg.base b o hm)
      . have hne:b≠g:=fun h=>hnone i k (h ▸ ho)
        exact ⟨hother b hne,fun o h=>⟨h,fun h'=>hne h'.1⟩⟩
    refine ⟨_,_,.inl (hrun _ _ hr),hb.but hge rfl rfl rfl (by simp) hother,_,hg1.fin_own hnb ?_ (.inr ⟨g,cap,row,T',by rw [List.length_append],hsame,by rw [List.length_append];exact hroom,e4,?_,?_⟩) ?_⟩
    . have:=(f3.mono hst).app (y1.mono hst)
      have hxy:(xs++ys).length=xs.length+ys.length:=List.length_append
      have hgoal:=segs_list (b:=g) (o:=0) (cap:=cap) this (by rw [hxy];exact hroom)
      rw [hxy] at hgoal
      refine hgoal fun j u hj=>?_
      rw [Nat.zero_add,cell_of_row _ g j row T' (0,0) hsame]
      have hxl:=f3.flat
      have hlt:j<(xs.length+ys.length) * e.size:=by
        have:=(List.getElem?_eq_some_iff.1 hj).1
        rw [List.flatten_append,List.length_append,hxl,hyl,<- Nat.add_mul] at this;exact this
      refine ⟨?_,fun h=>h.2 ⟨rfl,hlt⟩⟩
      rw [List.flatten_append,List.getElem?_append] at hj
      rw [hxl] at hj
      split at hj
      . rename_i hjx
        rw [hrl j hjx]
        have hpx:0<xs.length:=by
          rcases Nat.eq_zero_or_pos xs.length with h'|h'
          . rw [h',Nat.zero_mul] at hjx;omega
          . exact h'
        obtain ⟨b',o',hp,hcc⟩:=f4 hpx
        rw [<- f1a] at hp
        simp only [Option.some.injEq,Addr.mk.injEq] at hp
        obtain ⟨rfl,rfl,_⟩:=hp
        have:=(hcc j u hj).1
        rw [Nat.zero_add,cell_of_row w g j cur T' (0,0) e2] at this
        exact this
      . rename_i hjx
        have:=hrm (j - xs.length * e.size) (by rw [Nat.add_mul] at hlt;omega)
        rw [show xs.length * e.size+(j - xs.length * e.size)=j from by omega] at this
        rw [this];exact hj
    . rw [<- hrow]
      simp only [List.size_toArray,List.length_append,htl,hyl,List.length_drop,Array.length_toList,e5]
      omega
    . intro o ho
      rw [List.length_append] at ho
      refine ⟨e6 o ?_,fun h=>by omega⟩
      have:xs.length * e.size<=(xs.length+ys.length) * e.size:=Nat.mul_le_mul_right _ (by omega)
      omega
    . intro b hbb
      simp [ownB] at hbb
      subst hbb
      refine ⟨hge,fun j l ho=>hnone j l (owns_world (fun i b ho'=>hother b fun h=>hnone i none (h ▸ ho')) ho)⟩
end
end Go.V
namespace Go.V
open Go.RowKit (Below)
section
variable {P : Program} {Φ : Nat → List Spec} {F : Nat → Prop} {M0 : Base} {w0 : World} {M : Mut} {st : St} {a : Act} {w : World} {o : Oper}
theorem nobox_set {i:Nat} {s:S} (hs:isBox s=false) (hnb:NoBox st o):NoBox (st.set i s) o:=by
  intro d hd
  rcases Nat.lt_or_ge i st.length with hi|hi
  . rw [get_set st i d s hi]
    split
    . exact hs
    . exact hnb d hd
  . rw [List.set_eq_of_length_le hi];exact hnb d hd
theorem nobox_setbox {i:Nat} {cs cs':List C} (hg:get st i = .box cs) (hnb:NoBox st o):NoBox (st.set i (.box cs')) o:=by
  intro d hd
  have:=hnb d hd
  rcases Nat.lt_or_ge i st.length with hi|hi
  . rw [get_set st i d _ hi]
    split
    . rename_i e;subst e;rw [hg] at this;cases this
    . exact this
  . rw [List.set_eq_of_length_le hi];exact this
theorem op_append (hg:Good M0 F M st a w) (hb:Fr F w0 w) (hnb:NoBox st o) {T:TypeId} {x y:Operand} {cl:Call} (ho:o.op = .call cl)
    (h1:cl.callee = .builtin .append) (h2:cl.argTypes = #[T,T]) (h3:cl.args = #[x,y]) {rd0:Nat}
    {c:Bool} {rd:Nat} {wr:List (Nat×S)} {mk:Bool} (h:preAppend P mk o.dst.toList st rd0 T x y = .eff c rd wr) (hc:c=true):ORun P F M0 w0 o a w (app wr st):=by
  unfold preAppend at h
  split at h
  rotate_left
  . cases h
  rename_i e ht
  split at h
  rotate_left
  . cases h
  rename_i ys hys
  have hy:=as_ok (opnd_ok hg y) hys
  have hx:=opnd_ok hg x
  unfold preApp at h
  split at h
  . rename_i ex
    rw [ex] at hx
    have hx:a.eval x = .slice none 0 0:=hx
    cases mk with
    | true =>
      simp only [put1,Pre.eff.injEq] at h
      obtain ⟨hf,_,rfl⟩:=h
      exact append_nil_arr (P:=P) hg hb hnb ht ho h1 h2 h3 hx hy (by rw [hf];exact hc)
    | false =>
    simp only [put1,Pre.eff.injEq] at h
    obtain ⟨hf,_,rfl⟩:=h
    have:=append_core (P:=P) hg hb hnb ht ho h1 h2 h3 (xs:=[]) (by rw [hx];exact RepC.list_nil e) (by rw [hx];exact .inl ⟨rfl,rfl⟩) (by rw [hx];simp [ownB]) hy (by rw [hf];exact hc)
    exact this
  . rename_i u xs hh ex
    split at h
    rotate_left
    . cases h
    rename_i e'
    subst e'
    cases x with
    | tmp hm =>
      dsimp only at h
      simp only [Pre.eff.injEq] at h
      obtain ⟨hf,_,rfl⟩:=h
      have hgx:get st hm = .own u xs hh:=ex
      rw [ex] at hx
      obtain ⟨hd1,hd2⟩:=hg.demote hgx hx.1
      exact append_core (P:=P) hd1 hb (nobox_set rfl hnb) ht ho h1 h2 h3 hx.1 hx.2 (fun b hbb=>⟨hg.new hm none b ⟨by rw [hgx];rfl,hbb⟩,hd2 b hbb⟩) hy (by rw [hf];exact hc)
    | _=>cases h
  . rename_i hm u xs ex
    split at h
    rotate_left
    . cases h
    rename_i e'
    subst e'
    split at h
    rotate_left
    . cases h
    rename_i u' xs' hgx
    split at h
    rotate_left
    . cases h
    rename_i hu'
    subst hu'
    simp only [Pre.eff.injEq] at h
    obtain ⟨hf,_,rfl⟩:=h
    rw [ex] at hx
    have heq:tm a hm=a.eval x:=hx.2 _ _ hgx
    have hsl:=hg.slot hm
    rw [hgx,heq] at hsl
    obtain ⟨hd1,hd2⟩:=hg.demote hgx (by rw [heq];exact hx.1)
    have hlen:xs'.length=xs.length:=by
      obtain ⟨p1,c1,q1,_⟩:=hsl.1
      obtain ⟨p2,c2,q2,_⟩:=hx.1
      rw [q1] at q2
      simp only [List.cons.injEq,Value.slice.injEq,and_true] at q2
      exact q2.2.1
    exact append_core (P:=P) hd1 hb (nobox_set rfl hnb) ht ho h1 h2 h3 hx.1 (by rw [<- hlen];exact hsl.2) (fun b hbb=>⟨hg.new hm none b ⟨by rw [hgx];rfl,by rw [heq];exact hbb⟩,hd2 b (by rw [heq];exact hbb)⟩) hy (by rw [hf];exact hc)
  . rename_i hm k u xs ex
    split at h
    rotate_left
    . cases h
    rename_i e'
    subst e'
    split at h
    rotate_left
    . cases h
    rename_i cs hgx
    split at h
    rotate_left
    . cases h
    rename_i u' xs' hcs
    split at h
    rotate_left
    . cases h
    rename_i hu'
    subst hu'
    simp only [Pre.eff.injEq] at h
    obtain ⟨hf,_,rfl⟩:=h
    rw [ex] at hx
    have hsl:=hg.slot hm
    rw [hgx] at hsl
    obtain ⟨b,T',cells,e1,e2,e3,e4,e5⟩:=hsl
    have hob:ownB (tm a hm)=some b:=by rw [e1];rfl
    have hcell:=hx.2 cs _ _ b hgx hcs hob
    have hcv:cells[k]? = some (a.eval x):=by rw [<- cell_of_row w b k cells T' (0,0) e2];exact hcell
    have hok:=e5 k _ _ hcs hcv
    obtain ⟨hd1,hd2⟩:=hg.demoteC hgx hcs (t:=u') (xs:=xs) (fun c v hc1 hc2=>by
      rw [hob] at hc1;cases hc1
      rw [hcell] at hc2;cases hc2
      exact hx.1)
    have hlen:xs'.length=xs.length:=by
      obtain ⟨p1,c1,q1,_⟩:=hok.1
      obtain ⟨p2,c2,q2,_⟩:=hx.1
      rw [q1] at q2
      simp only [List.cons.injEq,Value.slice.injEq,and_true] at q2
      exact q2.2.1
    exact append_core (P:=P) hd1 hb (nobox_setbox hgx hnb) ht ho h1 h2 h3 hx.1 (by rw [<- hlen];exact hok.2)
      (fun g hbb=>⟨hg.new hm (some k) g ⟨cs,_,b,_,hgx,hcs,rfl,hob,hcell,hbb⟩,hd2 b _ g hob hcell hbb⟩) hy (by rw [hf];exact hc)
  . cases h
theorem op_assign (hg:Good M0 F M st a w) (hb:Fr F w0 w) (hnb:NoBox st o) {x:Operand} (ho:o.op = .assign x)
    {c:Bool} {rd:Nat} {wr:List (Nat×S)} (h:vpre P Φ o st = .eff c rd wr):ORun P F M0 w0 o a w (app wr st):=by
  simp only [vpre,ho] at h
  have hr:(execOp a.eval o).run P w = .ok (.value (a.eval x)) w:=by simp [execOp,ho]
  have hx:=opnd_ok hg x
  split at h
  . rename_i t xs hh ex
    cases x with
    | tmp hm =>
      dsimp only at h
      simp only [Pre.eff.injEq] at h
      obtain ⟨_,_,rfl⟩:=h
      have hgx:get st hm = .own t xs hh:=ex
      rw [ex] at hx
      obtain ⟨hd1,hd2⟩:=hg.demote hgx hx.1
      exact .same hb hr (hd1.fin_own (nobox_set rfl hnb) hx.1 hx.2 fun b hbb=>⟨hg.new hm none b ⟨by rw [hgx];rfl,hbb⟩,hd2 b hbb⟩)
    | _=>cases h
  . rename_i hm t xs ex
    rw [ex] at hx
    split at h
    . rename_i u' xs' hgx
      split at h
      rotate_left
      . cases h
      rename_i hu'
      subst hu'
      simp only [Pre.eff.injEq] at h
      obtain ⟨_,_,rfl⟩:=h
      have heq:tm a hm=a.eval x:=hx.2 _ _ hgx
      have hsl:=hg.slot hm
      rw [hgx,heq] at hsl
      obtain ⟨hd1,hd2⟩:=hg.demote hgx (by rw [heq];exact hx.1)
      have hlen:xs'.length=xs.length:=by
        obtain ⟨p1,c1,q1,_⟩:=hsl.1
        obtain ⟨p2,c2,q2,_⟩:=hx.1
        rw [q1] at q2
        simp only [List.cons.injEq,Value.slice.injEq,and_true] at q2
        exact q2.2.1
      exact .same hb hr (hd1.fin_own (nobox_set rfl hnb) hx.1 (by rw [<- hlen];exact hsl.2) fun b hbb=>⟨hg.new hm none b ⟨by rw [hgx];rfl,by rw [heq];exact hbb⟩,hd2 b (by rw [heq];exact hbb)⟩)
    . exact orun_put (c:=true) (rd:=om x ||| bit hm) hg hb hnb h rfl hr (repV_list hx.1)
  . rename_i hm k t xs ex
    rw [ex] at hx
    exact orun_put (c:=true) (rd:=om x) hg hb hnb h rfl hr (repV_list hx.1)
  . rename_i ex
    rw [ex] at hx
    have hx':a.eval x = .slice none 0 0:=hx
    split at h
    . rename_i e ht
      simp only [Pre.eff.injEq] at h
      obtain ⟨_,_,rfl⟩:=h
      exact .same hb hr (hg.fin_own hnb (by rw [hx'];exact RepC.list_nil e) (.inl ⟨hx',rfl⟩) (by rw [hx'];simp [ownB]))
    . exact orun_put (c:=true) (rd:=om x) hg hb hnb h rfl hr hx
  . cases h
  . rename_i t xs hh ex
    cases x with
    | tmp hm =>
      dsimp only at h
      simp only [Pre.eff.injEq] at h
      obtain ⟨_,_,rfl⟩:=h
      have hgx:get st hm = .arr t xs hh:=ex
      rw [ex] at hx
      obtain ⟨hd1,hd2⟩:=hg.forget hgx
      exact .same hb hr (hd1.fin_arr (nobox_set rfl hnb) hx hd2)
    | _=>cases h
  . rename_i hm t ex
    rw [ex] at hx
    split at h
    rotate_left
    . cases h
    rename_i u xs hgx
    split at h
    rotate_left
    . cases h
    rename_i hut
    subst hut
    simp only [Pre.eff.injEq] at h
    obtain ⟨_,_,rfl⟩:=h
    have heq:tm a hm=a.eval x:=hx xs hgx
    have hsl:=hg.slot hm
    rw [hgx,heq] at hsl
    obtain ⟨hd1,hd2⟩:=hg.forget hgx
    rw [heq] at hd2
    cases hob:ownB (a.eval x) with
    | none =>
      have hnil:a.eval x = .slice none 0 0/\xs=[]:=by
        rcases hsl with h'|⟨g,cap,cells,T,e1,_⟩
        . exact h'
        . rw [e1] at hob;simp [ownB] at hob
      obtain ⟨e1,e2⟩:=hnil
      subst e2
      exact .same hb hr (hd1.fin_own (nobox_set rfl hnb) (by rw [e1];exact RepC.list_nil u) (.inl ⟨e1,rfl⟩) (by rw [e1];simp [ownB]))
    | some g =>
      obtain ⟨hge,hno⟩:=hd2 g hob
      have hfz:=hd1.freeze (n:=xs.length * u.size) hge hno
      obtain ⟨k1,k2⟩:=arr_own hsl (M':=fun b o=>M b o/\¬ (b=g/\o<xs.length * u.size)) (fun g' hg' b o=>by rw [hob] at hg';cases hg';exact Iff.rfl) (fun b o v h1 h2=>⟨h1,fun h3=>h2 h3.1⟩)
      exact .same hb hr (hfz.fin_own (nobox_set rfl hnb) k1 k2 fun b hbb=>by rw [hob] at hbb;cases hbb;exact ⟨hge,hno⟩)
  . cases h
  . cases h
  . cases h
  . rename_i h1 h2 h3 h4 h5 h6 h7 h8 h9 h10
    refine orun_put (c:=true) (rd:=om x) hg hb hnb (s:=opnd st x) h ?_ hr hx
    cases e:opnd st x with
    | own t xs hh=>exact absurd e (h1 t xs hh)
    | box cs=>exact absurd e (h5 cs)
    | arr t xs hh=>exact absurd e (h6 t xs hh)
    | sit xs pos=>exact absurd e (h10 xs pos)
    | _=>rfl
theorem Good.setbox (hg:Good M0 F M st a w) {i b:Nat} {cs cs':List C} {cells row:Array Value} {E:TypeId} (hi:get st i = .box cs) (ht:tm a i = .pointer (some ⟨b,0,none⟩)) (hh:w.heap[b]? = some (.cells cells E (0,0)))
    (hrow:row.size=cs'.length) (hok:∀ (k:Nat) (c:C) (u:Value),cs'[k]? = some c->row[k]? = some u->CellOK M w u c)
    (hfr:∀ (k:Nat) u ys,cs'[k]? = some (C.own u ys false)->cs[k]? = some (C.own u ys false)/\row[k]? = cells[k]?)
    (hfrA:∀ (k:Nat) u ys,cs'[k]? = some (C.arr u ys false)->∃ ys0,cs[k]? = some (C.arr u ys0 false)/\row[k]? = cells[k]?)
    (hnew:∀ (k:Nat) c0 v g,cs'[k]? = some c0->ownC c0=true->row[k]? = some v->ownB v=some g ->
      ((∃ c1,cs[k]? = some c1/\ownC c1=true)/\cells[k]? = some v)\/(¬ F g/\∀ j l,¬ owns st a w j l g))
    (huniq:∀ (k k':Nat) c0 v g c1 v',cs'[k]? = some c0->ownC c0=true->row[k]? = some v->ownB v=some g->(∀ j l,¬ owns st a w j l g) ->
      cs'[k']? = some c1->ownC c1=true->row[k']? = some v'->ownB v'=some g->k=k') :
    Good M0 F M (st.set i (.box cs')) a (w.setRow b row):=by
  have hil:i<st.length:=by
    rcases Nat.lt_or_ge i st.length with h'|h'
    . exact h'
    . rw [get_oob h'] at hi;cases hi
  have hset:∀ j,get (st.set i (.box cs')) j=if j=i then .box cs' else get st j:=fun j=>get_set st i j _ hil
  have hsame:=setRow_heap w b cells row E (0,0) hh
  have hother:∀ g,g≠b->(w.setRow b row).heap[g]? = w.heap[g]? := fun g hgb=>setRow_other w b g row hgb
  have hbo:owns st a w i none b:=⟨by rw [hi];rfl,by rw [ht];rfl⟩
  have hM:∀ o,M b o:=by
    have:=hg.slot i
    rw [hi] at this
    obtain ⟨b',T,cells',e1,_,_,e4,_⟩:=this
    rw [ht] at e1;cases e1
    exact e4
  have hst:Stable M w M (w.setRow b row):=fun g o v h1 h2=>by
    have hgb:g≠b:=fun h=>h2 (h ▸ hM o)
    exact ⟨by rw [World.cell?_of_block (w:=w) (a:=⟨g,o,none⟩) (hother g hgb)];exact h1,h2⟩
  have howns:∀ j l g,owns (st.set i (.box cs')) a (w.setRow b row) j l g->owns st a w j l g\/(j=i/\∃ k c0 v,l=some k/\cs'[k]? = some c0/\ownC c0=true/\row[k]? = some v/\ownB v=some g/\¬ F g/\∀ j l,¬ owns st a w j l g):=by
    intro j l g ho
    cases l with
    | none =>
      left
      by_cases hj:j=i
      . subst hj;exact ⟨by rw [hi];rfl,ho.2⟩
      . simpa only [owns,hset,if_neg hj] using ho
    | some k =>
      obtain ⟨ds,c0,c,v,e1,e2,e0,e3,e4,e5⟩:=ho
      by_cases hj:j=i
      . subst hj
        rw [hset,if_pos rfl] at e1;cases e1
        rw [ht] at e3;simp [ownB] at e3;subst e3
        rw [cell_of_row _ b k row E (0,0) hsame] at e4
        rcases hnew k c0 v g e2 e0 e4 e5 with ⟨⟨c1,f1,f0⟩,f2⟩|⟨f1,f2⟩
        . left
          exact ⟨cs,c1,b,v,hi,f1,f0,by rw [ht];rfl,by rw [cell_of_row w b k cells E (0,0) hh];exact f2,e5⟩
        . right
          exact ⟨rfl,k,c0,v,rfl,e2,e0,e4,e5,f1,f2⟩
      . left
        rw [hset,if_neg hj] at e1
        have hcb:c≠b:=fun h=>by
          subst h
          exact hj (hg.one j none i none c ⟨by rw [e1];rfl,e3⟩ hbo).1
        rw [World.cell?_of_block (w:=w) (a:=⟨c,k,none⟩) (hother c hcb)] at e4
        exact ⟨ds,c0,c,v,e1,e2,e0,e3,e4,e5⟩
  have hturn:Turn st a w (st.set i (.box cs')) a (w.setRow b row):=by
    refine ⟨fun h u ys e=>?_,fun h ds k u ys e1 e2=>?_,fun h u ys e=>?_,fun h ds k u ys e1 e2=>?_,fun h ds e=>?_⟩
    . rw [hset] at e;split at e
      . cases e
      . exact ⟨e,rfl⟩
    . by_cases hj:h=i
      . subst hj
        rw [hset,if_pos rfl] at e1;cases e1
        obtain ⟨f1,f2⟩:=hfr k u ys e2
        refine ⟨cs,hi,f1,rfl,fun g hgb=>?_⟩
        rw [ht] at hgb;simp [ownB] at hgb;subst hgb
        rw [cell_of_row _ b k row E (0,0) hsame,cell_of_row w b k cells E (0,0) hh,f2]
      . rw [hset,if_neg hj] at e1
        refine ⟨ds,e1,e2,rfl,fun g hgb=>?_⟩
        have hcb:g≠b:=fun h'=>by
          subst h'
          exact hj (hg.one h none i none g ⟨by rw [e1];rfl,hgb⟩ hbo).1
        exact World.cell?_of_block (w:=w) (a:=⟨g,k,none⟩) (hother g hcb)
    . rw [hset] at e;split at e
      . cases e
      . exact ⟨ys,e,rfl⟩
    . by_cases hj:h=i
      . subst hj
        rw [hset,if_pos rfl] at e1;cases e1
        obtain ⟨ys0,f1,f2⟩:=hfrA k u ys e2
        refine ⟨cs,ys0,hi,f1,rfl,fun g hgb=>?_⟩
        rw [ht] at hgb;simp [ownB] at hgb;subst hgb
        rw [cell_of_row _ b k row E (0,0) hsame,cell_of_row w b k cells E (0,0) hh,f2]
      . rw [hset,if_neg hj] at e1
        refine ⟨ds,ys,e1,e2,rfl,fun g hgb=>?_⟩
        have hcb:g≠b:=fun h'=>by
          subst h'
          exact hj (hg.one h none i none g ⟨by rw [e1];rfl,hgb⟩ hbo).1
        exact World.cell?_of_block (w:=w) (a:=⟨g,k,none⟩) (hother g hcb)
    . rw [hset];split
      . exact ⟨⟨_,rfl⟩,rfl⟩
      . exact ⟨⟨ds,e⟩,rfl⟩
  refine ⟨hg.defers.keep (KeepsD.but hh (by simp) fun k _ hk=>hother k hk),by simpa using hg.size,by simpa using hg.room,hg.base,hg.up,fun g o hm=>by simpa using hg.lt g o hm,hg.down,fun j=>?_,fun j l j' l' g h1 h2=>?_,fun j l g h1=>?_,hg.keep.trans hst,hg.pin_turn hturn,hg.dm⟩
  . by_cases hj:j=i
    . subst hj
      rw [hset,if_pos rfl]
      refine ⟨b,E,row,ht,hsame,hrow,hM,fun k c u hc hu=>(hok k c u hc hu).keep hst fun g ec eg=>?_⟩
      have hgb:g≠b:=by
        rcases hnew k c u g hc ec hu eg with ⟨⟨c1,f1,f0⟩,f2⟩|⟨_,f2⟩
        . intro h';subst h'
          have:=hg.one j (some k) j none g ⟨cs,c1,g,u,hi,f1,f0,by rw [ht];rfl,by rw [cell_of_row w g k cells E (0,0) hh];exact f2,eg⟩ hbo
          exact absurd this.2 (by simp)
        . intro h';subst h';exact f2 j none hbo
      exact ⟨hother g hgb,fun _ h=>h⟩
    . rw [hset,if_neg hj]
      refine SlotOK.keep hst hturn rfl rfl (hg.slot j) fun k g ho=>?_
      have hgb:g≠b:=fun h'=>by subst h';exact hj (hg.one j k i none g ho hbo).1
      exact ⟨hother g hgb,fun _ h=>h⟩
  . rcases howns j l g h1 with o1|⟨rfl,k,c0,v,rfl,p1,p0,p2,p3,p4,p5⟩
    . rcases howns j' l' g h2 with o2|⟨rfl,k,c0,v,rfl,p1,p0,p2,p3,p4,p5⟩
      . exact hg.one j l j' l' g o1 o2
      . exact absurd o1 (p5 _ _)
    . rcases howns j' l' g h2 with o2|⟨rfl,k',c1,v',rfl,q1,q0,q2,q3,q4,q5⟩
      . exact absurd o2 (p5 _ _)
      . exact ⟨rfl,by rw [huniq k k' c0 v g c1 v' p1 p0 p2 p3 p5 q1 q0 q2 q3]⟩
  . rcases howns j l g h1 with o1|⟨_,_,_,_,_,_,_,_,_,p4,_⟩
    . exact hg.new j l g o1
    . exact p4
end
end Go.V
