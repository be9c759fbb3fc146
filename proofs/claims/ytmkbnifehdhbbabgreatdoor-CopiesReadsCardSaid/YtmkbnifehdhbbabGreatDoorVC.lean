/- Part. -/
import Derived.Test.YtmkbnifehdhbbabGreatDoorVB
import Derived.Laws.BytesString
set_option linter.all false
noncomputable section
namespace Go.V
open Go.RowKit (Below)
section
variable {P : Program} {Φ : Nat → List Spec} {F : Nat → Prop} {M0 : Base} {w0 : World} {M : ai} {st : St} {a : Act} {w : World} {o : Oper}
theorem Nr (hg:Good M0 F M st a w) (hb:Fr F w0 w) (hnb:aN st o) {s t E:TypeId} {x:Operand} (ho:o.op = .convert s t x)
 (hs:P.underlying s=some (.slice E)) (ht:P.underlying t=some .string) (hE:P.underlying E=some (.int .u8)) {xs:List Int} (hx:aw M w (.list (.int .u8)) (a.eval x) xs) {c:Bool} {rd0 rd:Nat} {wr:List (Nat×S)}
 (h:aM o.dst.toList true rd0 (.d .str (dE xs)) = .eff c rd wr):aU P F M0 w0 o a w (app wr st):=by
 obtain ⟨p,cap,f1,f2,f3⟩:=ra hx;simp only [List.cons.injEq,and_true] at f1;refine aX hg hb hnb h rfl (v:=.string ⟨⟨dE xs⟩⟩) ?_ (qH (dE xs));have hcv:(Conv.bytesToString (.slice p xs.length cap)).run P w = .ok (.string ⟨⟨dE xs⟩⟩) w:=by
  cases p with
  | none =>
   have:xs=[]:=by
    cases xs with
    | nil=>rfl
    | cons n ns=>obtain ⟨b,off,ec,g1,_⟩:=f3 0 (Nat.succ_pos _);cases g1
   subst this;rfl
  | some p =>
   have hl:(loadCells p xs.length).run P w = .ok (xs.map (Value.int .u8)).toArray w:=by
    have hln:xs.length=(xs.map (Value.int .u8)).length:=by simp
    rw [hln];refine run_loadCells_list w p _ fun j v hv=>?_
    rw [List.getElem?_map] at hv;cases hj:xs[j]? with
    | none=>rw [hj] at hv;cases hv
    | some n =>
     rw [hj] at hv;cases hv;obtain ⟨hlt,e⟩:=List.getElem?_eq_some_iff.1 hj;obtain ⟨b,off,ec,g1,g2,g3,g4⟩:=f3 j hlt;cases g1;have g4:ec=[.int .u8 xs[j]]:=g4;subst g4;have:=(g3 0 (by simp)).1;simp [Ty.size] at this;rw [gh,this,e]
   rw [run_bytesToString w p xs.length cap xs hl,Re];rfl
 have hcv':=(run_convert_bytes_string w s t E p xs.length cap hs hE ht).trans hcv;simp only [execOp,ho,f1,Sem.run_bind,Sem.run_pure];exact congrArg (fun r=>Result.andThen r fun a w'=>Result.ok (Next.value a) w') hcv'
theorem TE (hg:Good M0 F M st a w) (hb:Fr F w0 w) (hnb:aN st o) {s t:TypeId} {x:Operand} (ho:o.op = .convert s t x)
 {c:Bool} {rd:Nat} {wr:List (Nat×S)} (h:az P Φ o st = .eff c rd wr):aU P F M0 w0 o a w (app wr st):=by
 simp only [az,ho] at h;have hx:=bx hg x;unfold qQ at h;split at h
 . rename_i j k hs ht;split at h
   . rename_i k' n e;exact Ns hg hb hnb ho hs ht (nO (fu hg e)) h
   . cases h
 . rename_i hs ht;split at h
   . rename_i b e;exact Nt hg hb hnb ho hs ht (AJ (fu hg e)) h
   . cases h
 . rename_i E hs ht;split at h
   . rename_i hE;split at h
     . rename_i xs hxs;exact Nr hg hb hnb ho hs ht hE (cO hx hxs) h
     . cases h
   . cases h
 . cases h
theorem yP (w:World) (ob:Obj):(w.alloc ob).heap.size=w.heap.size+1:=by
 show (w.heap.push ob).size=_;simp
theorem od (M:ai) (w:World) (ob:Obj) (q:Nat->Prop):aL M w (fun b o=>M b o\/(b=w.heap.size/\q o)) (w.alloc ob):=by
 intro b o v h1 h2;have hlt:=c_ h1;refine ⟨?_,?_⟩
 . rw [World.cell?_of_block (w:=w) (a:=⟨b,o,none⟩) (heap_alloc_old w ob b hlt)];exact h1
 . rintro (h|⟨h,_⟩)
   . exact h2 h
   . omega
theorem Good.alloc (h:Good M0 F M st a w) (ob:Obj) (q:Nat->Prop) :
 Good M0 F (fun b o=>M b o\/(b=w.heap.size/\q o)) st a (w.alloc ob):=by
 refine h.world (od M w ob q) (by rw [yP];omega) (fun b o hm=>.inl (h.up b o hm)) ?_ ?_ (fun D c e=>(heap_alloc_old w ob D (Array.getElem?_eq_some_iff.1 e).1).trans e) fun i k b ho=>⟨heap_alloc_old w ob b (cH h.slot ho),fun _ h=>.inl h⟩
 . rintro b o (hm|⟨rfl,_⟩)
   . have:=h.lt b o hm;rw [yP];omega
   . rw [yP];omega
 . rintro b o hlt (hm|⟨rfl,_⟩)
   . exact h.down b o hlt hm
   . have:=h.room _ hlt;omega
theorem Good.drew (h:Good M0 F M st a w):Good M0 F M st a w.drew :=
 h.world (fun _ _ _ h1 h2=>⟨h1,h2⟩) (Nat.le_refl _) h.up h.lt h.down (bF.refl w) fun _ _ _ _=>⟨rfl,fun _ h=>h⟩
theorem HB {d:Nat} {v:Value} (h:a.tmps.size<=d):a.put (some d) v=a:=by
 simp only [Act.put,Array.setIfInBounds];rw [dif_neg (by omega)]
theorem oV:∀ (t:Ty) (x:t.den) (k:Nat) (u:Ty) (ys:List u.den) (hh:Bool),(cellsOf t x)[k]? ≠ some (C.arr u ys hh)
 | .unit,_,k,u,ys,hh=>by simp [cellsOf]
 | .prod p q,x,k,u,ys,hh=>by
  simp only [cellsOf,List.getElem?_append];split
  . exact oV p x.1 _ _ _ _
  . exact oV q x.2 _ _ _ _
 | .int _,x,k,u,ys,hh=>by cases k<;>simp [cellsOf]
 | .bool,x,k,u,ys,hh=>by cases k<;>simp [cellsOf]
 | .str,x,k,u,ys,hh=>by cases k<;>simp [cellsOf]
 | .list _,x,k,u,ys,hh=>by cases k<;>simp [cellsOf]
 | .raw,x,k,u,ys,hh=>by cases k<;>simp [cellsOf]
 | .opq,x,k,u,ys,hh=>by cases k<;>simp [cellsOf]
 | .dyn _ _,x,k,u,ys,hh=>by cases k<;>simp [cellsOf]
 | .ptr _,x,k,u,ys,hh=>by cases k<;>simp [cellsOf]
 | .clo _ _ _,x,k,u,ys,hh=>by cases k<;>simp [cellsOf]
theorem yg:∀ (t:Ty) (k:Nat) (u:Ty) (ys:List u.den) (hh:Bool),(bZ t)[k]? ≠ some (C.arr u ys hh)
 | .unit,k,u,ys,hh=>by simp [bZ]
 | .prod p q,k,u,ys,hh=>by
  simp only [bZ,List.getElem?_append];split
  . exact yg p _ _ _ _
  . exact yg q _ _ _ _
 | .int _,k,u,ys,hh=>by cases k<;>simp [bZ]
 | .bool,k,u,ys,hh=>by cases k<;>simp [bZ]
 | .str,k,u,ys,hh=>by cases k<;>simp [bZ]
 | .list _,k,u,ys,hh=>by cases k<;>simp [bZ]
 | .raw,k,u,ys,hh=>by cases k<;>simp [bZ]
 | .opq,k,u,ys,hh=>by cases k<;>simp [bZ]
 | .dyn _ _,k,u,ys,hh=>by cases k<;>simp [bZ]
 | .ptr _,k,u,ys,hh=>by cases k<;>simp [bZ]
 | .clo _ _ _,k,u,ys,hh=>by cases k<;>simp [bZ]
theorem Good.put_box (h:Good M0 F M st a w) (hnb:aN st o) {cs:List C} {cells:Array Value} {E:TypeId} (hna:∀ (k:Nat) t xs hh,cs[k]? ≠ some (C.arr t xs hh)) (hf:∀ (k:Nat) t xs,cs[k]? ≠ some (C.own t xs false))
 (hown:∀ (k:Nat) t xs hh v,cs[k]? = some (C.own t xs hh)->cells[k]? = some v->v = .slice none 0 0) (hsz:cells.size=cs.length)
 (hok:∀ (k:Nat) (c:C) (u:Value),cs[k]? = some c->cells[k]? = some u->fC M w u c) :
 ∃ M',Good M0 F M' (app (o.dst.toList.map (·,S.box cs)) st) (a.put o.dst (.pointer (some ⟨w.heap.size,0,none⟩))) (w.alloc (.cells cells E)):=by
 have h1:=h.alloc (.cells cells E) (fun _=>True);refine ⟨fun b o=>M b o\/(b=w.heap.size/\True),?_⟩
 . cases hdst:o.dst with
   | none=>exact h1
   | some d =>
    show Good M0 F _ (st.set d (.box cs)) (a.put (some d) _) _;rcases Nat.lt_or_ge d st.length with hd|hd
    rotate_left
    . rw [List.set_eq_of_length_le hd,HB (by rw [h.size];exact hd)];exact h1
    have hda:d<a.tmps.size:=by rw [h.size];exact hd
    have hnb':∀ cs,get st d ≠ .box cs:=fun cs e=>by have:=hnb d hdst;rw [e] at this;cases this
    have key:∀ k b,ap (st.set d (.box cs)) (a.put (some d) (.pointer (some ⟨w.heap.size,0,none⟩))) (w.alloc (.cells cells E)) d k b->k=none/\b=w.heap.size:=by
     intro k b hk;cases k with
     | none =>
      have:=hk.2;rw [mc a _ _ _ hda,if_pos rfl] at this;simp [ag] at this;exact ⟨rfl,this.symm⟩
     | some k =>
      obtain ⟨cs',c0,c,v,e1,e2,e0,e3,e4,e5⟩:=hk;rw [bu st _ _ _ hd,if_pos rfl] at e1;cases e1;rw [mc a _ _ _ hda,if_pos rfl] at e3;simp [ag] at e3;subst e3;rw [cell_of_row _ _ k cells E (0,0) (heap_alloc_new w _)] at e4;cases c0<;>simp [b_] at e0
      . have:=hown k _ _ _ v e2 e4;subst this;simp [ag] at e5
      . exact absurd e2 (hna k _ _ _)
    refine h1.put hd hnb' (fun k t xs=>⟨hf k t xs,hna k t xs false⟩) ⟨w.heap.size,E,cells,rfl,heap_alloc_new w _,hsz,fun _=>.inr ⟨rfl,trivial⟩,fun k c u hc hu=>?_⟩ (fun k b hk=>?_) (fun k l b e1 e2=>by rw [(key k b e1).1,(key l b e2).1])
    . refine (hok k c u hc hu).keep (od M w _ _) fun b ec eb=>?_
      cases c<;>simp [b_] at ec
      . have:=hown k _ _ _ u hc hu;subst this;simp [ag] at eb
      . exact absurd hc (hna k _ _ _)
    . obtain ⟨_,rfl⟩:=key k b hk;exact ⟨fun hF=>absurd (h.room _ hF) (Nat.lt_irrefl _),fun j l _=>fun ho=>absurd (cH h.slot (cM (fun i b ho'=>heap_alloc_old w _ b (cH h.slot ho')) ho)) (by omega)⟩
theorem td:∀ (t:Ty) (us:List Value) (x:t.den),af M w t us x->cE M w us (cellsOf t x)/\∀ (k:Nat) u ys hh,(cellsOf t x)[k]? ≠ some (C.own u ys hh)
 | .unit,us,x,h=>by rw [show us=[] from h];exact ⟨trivial,by simp [cellsOf]⟩
 | .prod p q,us,x,h=>by
  obtain ⟨c1,c2,rfl,h1,h2⟩:=h;obtain ⟨i1,i2⟩:=td p c1 x.1 h1;obtain ⟨j1,j2⟩:=td q c2 x.2 h2;have happ:∀ (us vs:List Value) (cs ds:List C),cE M w us cs->cE M w vs ds->cE M w (us++vs) (cs++ds):=by
   intro us
   induction us with
   | nil=>intro vs cs ds a b;cases cs with
    | nil=>exact b
    | cons _ _=>exact a.elim
   | cons u us ih=>intro vs cs ds a b;cases cs with
    | nil=>exact a.elim
    | cons c cs=>exact ⟨a.1,ih vs cs ds a.2 b⟩
  refine ⟨happ _ _ _ _ i1 j1,fun k u ys hh e=>?_⟩;simp only [cellsOf,List.getElem?_append] at e;split at e
  . exact i2 _ _ _ _ e
  . exact j2 _ _ _ _ e
 | .int _,us,x,h=>by
  have hl:=af.length _ _ _ h
  match us,hl with
  | [v],_=>exact ⟨⟨h,trivial⟩,fun k u ys hh e=>by cases k<;>simp [cellsOf] at e⟩
 | .bool,us,x,h=>by
  have hl:=af.length _ _ _ h
  match us,hl with
  | [v],_=>exact ⟨⟨h,trivial⟩,fun k u ys hh e=>by cases k<;>simp [cellsOf] at e⟩
 | .str,us,x,h=>by
  have hl:=af.length _ _ _ h
  match us,hl with
  | [v],_=>exact ⟨⟨h,trivial⟩,fun k u ys hh e=>by cases k<;>simp [cellsOf] at e⟩
 | .list _,us,x,h=>by
  have hl:=af.length _ _ _ h
  match us,hl with
  | [v],_=>exact ⟨⟨h,trivial⟩,fun k u ys hh e=>by cases k<;>simp [cellsOf] at e⟩
 | .raw,us,x,h=>by
  have hl:=af.length _ _ _ h
  match us,hl with
  | [v],_=>exact ⟨⟨h,trivial⟩,fun k u ys hh e=>by cases k<;>simp [cellsOf] at e⟩
 | .opq,us,x,h=>by
  have hl:=af.length _ _ _ h
  match us,hl with
  | [v],_=>exact ⟨⟨h,trivial⟩,fun k u ys hh e=>by cases k<;>simp [cellsOf] at e⟩
 | .dyn _ _,us,x,h=>by
  have hl:=af.length _ _ _ h
  match us,hl with
  | [v],_=>exact ⟨⟨h,trivial⟩,fun k u ys hh e=>by cases k<;>simp [cellsOf] at e⟩
 | .ptr _,us,x,h=>by
  have hl:=af.length _ _ _ h
  match us,hl with
  | [v],_=>exact ⟨⟨h,trivial⟩,fun k u ys hh e=>by cases k<;>simp [cellsOf] at e⟩
 | .clo _ _ _,us,x,h=>by
  have hl:=af.length _ _ _ h
  match us,hl with
  | [v],_=>exact ⟨⟨h,trivial⟩,fun k u ys hh e=>by cases k<;>simp [cellsOf] at e⟩
theorem Tz (hg:Good M0 F M st a w) (hb:Fr F w0 w) (hnb:aN st o) {T:TypeId} {x:Operand} (ho:o.op = .box T x)
 {c:Bool} {rd:Nat} {wr:List (Nat×S)} (h:az P Φ o st = .eff c rd wr):aU P F M0 w0 o a w (app wr st):=by
 simp only [az,ho] at h;have hx:=bx hg x;split at h;rotate_left
 . cases h
 rename_i t ht;split at h
 . rename_i hs;rw [hs] at hx;have hx':a.eval x = .slice none 0 0:=hx;split at h;rotate_left
   . cases h
   rename_i e;simp only [Pre.eff.injEq] at h;obtain ⟨_,_,rfl⟩:=h;obtain ⟨M',hg'⟩:=hg.put_box (o:=o) (E:=T) hnb (cs:=[.own e [] true]) (cells := #[.slice none 0 0]) (fun k t xs hh h=>by cases k<;>simp at h) (fun k t xs h=>by cases k<;>simp at h)
    (fun k t xs hh v h1 h2=>by cases k<;>simp at h1 h2;exact h2.symm) rfl
    (fun k c u h1 h2=>by
     match k,h1,h2 with
     | 0,h1,h2=>cases h1;cases h2;exact ⟨af.list_nil e,.inl ⟨rfl,rfl⟩⟩
     | _+1,h1,_=>cases h1)
   refine ⟨.pointer (some ⟨w.heap.size,0,none⟩),w.alloc (.cells #[.slice none 0 0] T),.inl ?_,hb.alloc hg.room _,M',hg'⟩;simp [execOp,ho,Instr.box,newVar,newRow,hx',Value.cells]
 split at h;rotate_left
 . cases h
 rename_i v hv;obtain ⟨cs,e1,e2⟩:=cO hx hv;obtain ⟨k1,k2⟩:=td t cs v e2;rw [ie] at k1;simp only [Pre.eff.injEq] at h;obtain ⟨_,_,rfl⟩:=h;have hcells:(a.eval x).cells=cs.toArray:=by rw [e1];exact md e2
 obtain ⟨M',hg'⟩:=hg.put_box (o:=o) (E:=T) hnb (cs:=cellsOf t v) (cells:=cs.toArray) (oV t v) (fun k u ys=>k2 k u ys false) (fun k u ys hh _ e _=>absurd e (k2 k u ys hh)) (by simpa using k1.1)
  (fun k c u e1 e2=>k1.2 k c u e1 (by simpa using e2))
 refine ⟨.pointer (some ⟨w.heap.size,0,none⟩),w.alloc (.cells cs.toArray T),.inl ?_,hb.alloc hg.room _,M',hg'⟩;simp [execOp,ho,Instr.box,newVar,newRow,hcells]
theorem J2 {t:Ty} {v:Value} (ha:t.agg=false) (h:hU t v=true):af M w t [v] t.zero/\∀ e,t = .list e->v = .slice none 0 0:=by
 cases t with
 | unit=>cases ha
 | prod p q=>cases ha
 | int k =>
  cases v<;>simp [hU] at h
  obtain ⟨rfl,rfl⟩:=h;exact ⟨rfl,fun e h=>by cases h⟩
 | bool =>
  cases v<;>simp [hU] at h
  subst h;exact ⟨rfl,fun e h=>by cases h⟩
 | str =>
  cases v<;>simp [hU] at h
  rename_i s;refine ⟨?_,fun e h=>by cases h⟩;show [Value.string s]=[.string ⟨⟨[]⟩⟩]
  congr 2
  apply ByteArray.ext
  simpa using h
 | list e =>
  unfold hU at h;dsimp only at h;split at h
  . exact ⟨af.list_nil e,fun _ _=>rfl⟩
  . cases h
 | raw =>
  cases v<;>simp [hU] at h
  exact ⟨⟨rfl,rfl,rfl⟩,fun e h=>by cases h⟩
 | opq =>
  unfold hU at h;dsimp only at h;split at h
  . exact ⟨⟨_,rfl,rfl,rfl⟩,fun e h=>by cases h⟩
  . exact ⟨⟨_,rfl,rfl,rfl⟩,fun e h=>by cases h⟩
  . cases h
 | dyn T e=>simp [hU] at h
 | ptr e=>simp [hU] at h
 | clo T e e2=>simp [hU] at h
theorem kC {t:Ty} {us rest:List Value} (ha:t.agg=false) (hz:bZ t=[.d t t.zero])
 (h:vw t us=some rest) :
 ∃ c1,us=c1++rest/\af M w t c1 t.zero/\cE M w c1 (bZ t) /\
 (∀ (k:Nat) u ys,(bZ t)[k]? ≠ some (C.own u ys false))/\∀ (k:Nat) u ys hh v,(bZ t)[k]? = some (C.own u ys hh)->c1[k]? = some v->v = .slice none 0 0:=by
 unfold vw at h;cases us with
 | nil=>cases h
 | cons v cs =>
  dsimp only at h;split at h
  . rename_i hz1;cases h;obtain ⟨r1,_⟩:=J2 (M:=M) (w:=w) ha hz1;rw [hz];refine ⟨[v],rfl,r1,⟨r1,trivial⟩,fun k u ys e=>?_,fun k u ys hh v' e e'=>?_⟩
    . cases k<;>simp at e
    . cases k<;>simp at e
  . cases h
theorem Cv:∀ (t:Ty) (us rest:List Value),e_ t us=some rest->∃ c1,us=c1++rest/\af M w t c1 t.zero/\cE M w c1 (bZ t) /\
 (∀ (k:Nat) u ys,(bZ t)[k]? ≠ some (C.own u ys false))/\∀ (k:Nat) u ys hh v,(bZ t)[k]? = some (C.own u ys hh)->c1[k]? = some v->v = .slice none 0 0
 | .unit,us,rest,h=>by
  simp only [e_,Option.some.injEq] at h;subst h;exact ⟨[],rfl,rfl,trivial,by simp [bZ],by simp [bZ]⟩
 | .prod p q,us,rest,h=>by
  simp only [e_] at h;cases h1:e_ p us with
  | none=>rw [h1] at h;cases h
  | some r1 =>
   rw [h1] at h;obtain ⟨c1,rfl,a1,a2,a3,a4⟩:=Cv p us r1 h1;obtain ⟨c2,rfl,b1,b2,b3,b4⟩:=Cv q r1 rest h;have happ:∀ (us vs:List Value) (cs ds:List C),cE M w us cs->cE M w vs ds->cE M w (us++vs) (cs++ds):=by
    intro us
    induction us with
    | nil=>intro vs cs ds a b;cases cs with
     | nil=>exact b
     | cons _ _=>exact a.elim
    | cons u us ih=>intro vs cs ds a b;cases cs with
     | nil=>exact a.elim
     | cons c cs=>exact ⟨a.1,ih vs cs ds a.2 b⟩
   have hl:c1.length=(bZ p).length:=((ie _ _).1 a2).1;refine ⟨c1++c2,by simp,⟨c1,c2,rfl,a1,b1⟩,happ _ _ _ _ a2 b2,fun k u ys e=>?_,fun k u ys hh v e e'=>?_⟩
   . simp only [bZ,List.getElem?_append] at e;split at e
     . exact a3 _ _ _ e
     . exact b3 _ _ _ e
   . simp only [bZ,List.getElem?_append] at e e';rw [hl] at e';split at e
     . rename_i hlt;rw [if_pos hlt] at e';exact a4 _ _ _ _ _ e e'
     . rename_i hlt;rw [if_neg hlt] at e';exact b4 _ _ _ _ _ e e'
 | .int k,us,rest,h=>kC rfl rfl (by simpa only [e_] using h)
 | .bool,us,rest,h=>kC rfl rfl (by simpa only [e_] using h)
 | .str,us,rest,h=>kC rfl rfl (by simpa only [e_] using h)
 | .list e,us,rest,h=>by
  simp only [e_,vw] at h;split at h
  . rename_i v cs;split at h
    . rename_i hz;cases h;obtain ⟨r1,r2⟩:=J2 (M:=M) (w:=w) rfl hz;have hv:v = .slice none 0 0:=r2 e rfl;refine ⟨[v],rfl,r1,⟨⟨r1,.inl ⟨hv,rfl⟩⟩,trivial⟩,fun k u ys e=>?_,fun k u ys hh v' e e'=>?_⟩
      . cases k<;>simp [bZ] at e
      . cases k with
        | zero=>simp at e';rw [<- e'];exact hv
        | succ k=>simp at e'
    . cases h
  . cases h
 | .raw,us,rest,h=>kC rfl rfl (by simpa only [e_] using h)
 | .opq,us,rest,h=>kC rfl rfl (by simpa only [e_] using h)
 | .dyn T e,us,rest,h=>kC rfl rfl (by simpa only [e_] using h)
 | .ptr e,us,rest,h=>kC rfl rfl (by simpa only [e_] using h)
 | .clo T e e2,us,rest,h=>kC rfl rfl (by simpa only [e_] using h)
theorem tT {T:TypeId} {t:Ty} (h:lj P T t=true):∃ i z cs,P.info? T=some i/\i.zero=some z/\z=aP t cs/\z.cells=cs.toArray/\af M w t cs t.zero/\cE M w cs (bZ t) /\
 (∀ (k:Nat) u ys,(bZ t)[k]? ≠ some (C.own u ys false))/\∀ (k:Nat) u ys hh v,(bZ t)[k]? = some (C.own u ys hh)->cs[k]? = some v->v = .slice none 0 0:=by
 unfold lj at h;split at h
 . rename_i i hi;split at h
   . rename_i z hz;split at h
     . rename_i hzo;obtain ⟨c1,e1,e2,e3,e4,e5⟩:=Cv (M:=M) (w:=w) t _ _ hzo;rw [List.append_nil] at e1;refine ⟨i,z,c1,hi,hz,?_,by rw [<- e1],e2,e3,e4,e5⟩;have h1:=af.one _ _ _ e2;split at h
       . rename_i cs;rw [aP,if_pos h,<- e1];simp [Value.cells]
       . rename_i hna;have ha:t.agg=false:=by simpa using h
         rw [aP,if_neg (by simp [ha]),<- e1];cases z with
         | agg cs=>exact absurd rfl (hna cs)
         | _=>rfl
     . cases h
   . cases h
 . cases h
theorem Tn (hg:Good M0 F M st a w) (hb:Fr F w0 w) (hnb:aN st o) {T:TypeId} (ho:o.op = .alloc T)
 {c:Bool} {rd:Nat} {wr:List (Nat×S)} (h:az P Φ o st = .eff c rd wr):aU P F M0 w0 o a w (app wr st):=by
 simp only [az,ho] at h;split at h;rotate_left
 . cases h
 rename_i t ht;split at h;rotate_left
 . cases h
 rename_i hz;obtain ⟨i,z,cs,hi,hzz,ez,ecs,r1,r2,r3,r4⟩:=tT (M:=M) (w:=w) hz;rw [ie] at r2;simp only [Pre.eff.injEq] at h;obtain ⟨_,_,rfl⟩:=h;obtain ⟨M',hg'⟩:=hg.put_box (o:=o) (E:=T) hnb (cs:=bZ t) (cells:=cs.toArray) (yg t) r3 (fun k u ys hh v e e'=>r4 k u ys hh v e (by simpa using e')) (by simpa using r2.1)
  (fun k c u e1 e2=>r2.2 k c u e1 (by simpa using e2))
 refine ⟨.pointer (some ⟨w.heap.size,0,none⟩),w.alloc (.cells cs.toArray T),.inl ?_,hb.alloc hg.room _,M',hg'⟩;simp [execOp,ho,Instr.alloc,zeroValue,typeInfo,hi,hzz,newVar,newRow,ecs]
theorem TO (hg:Good M0 F M st a w) (hb:Fr F w0 w) (hnb:aN st o) {T:TypeId} (ho:o.op = .makeMap T none)
 {c:Bool} {rd:Nat} {wr:List (Nat×S)} (h:az P Φ o st = .eff c rd wr):aU P F M0 w0 o a w (app wr st):=by
 simp only [az,ho,Pre.eff.injEq] at h;obtain ⟨_,_,rfl⟩:=h;have hg':=(hg.alloc (.map #[] 0) (fun _=>False)).fin (dst:=o.dst) (s:=.d .opq ()) (v:=.map (some w.heap.size)) hnb rfl ⟨[.map (some w.heap.size)],rfl,_,rfl,rfl,rfl⟩;refine ⟨.map (some w.heap.size),w.alloc (.map #[] 0),.inl ?_,hb.alloc hg.room _,_,hg'⟩;simp [execOp,ho,Instr.makeMap]
end
open Go.RowKit (Below)
section
variable {P : Program} {Φ : Nat → List Spec} {F : Nat → Prop} {M0 : Base} {w0 : World} {M : ai} {st : St} {a : Act} {w : World} {o : Oper}
theorem FB:∀ (vs:List Value) (k off:Nat) (cs:Array Value),off+k+vs.length<=cs.size ->
 ((vs.zipIdx k).foldl (fun (cs:Array Value) (p:Value×Nat)=>cs.setIfInBounds (off+p.2) p.1) cs).toList=cs.toList.take (off+k)++vs++cs.toList.drop (off+k+vs.length)
 | [],k,off,cs,h=>by simp
 | v :: vs,k,off,cs,h=>by
  simp only [List.length_cons] at h;rw [List.zipIdx_cons,List.foldl_cons,FB vs (k+1) off _ (by simp;omega)];simp only [Array.toList_setIfInBounds,List.length_cons];have hk:off+k<cs.toList.length:=by simp;omega
  rw [show off+(k+1)=off+k+1 from by omega];rw [List.take_set,List.drop_set_of_lt (by omega)];rw [List.take_succ_eq_append_getElem (by simpa using hk)];rw [List.set_append_right _ _ (by simp;omega)];simp only [List.length_take,Nat.min_eq_left (Nat.le_of_lt hk),Nat.sub_self,List.set_cons_zero];simp only [List.append_assoc,List.cons_append,List.nil_append];rw [show off+k+1+vs.length=off+k+(vs.length+1) from by omega]
theorem Fv {place:Nat->Option (Nat×Nat)} {cells:Array Value} {i:Nat} {v:Value} {rest:List (Nat×Value)} {off size:Nat} {seg:List Value}
 (hp:place i=some (off,size)) (hv:v.cells=seg.toArray) (hs:seg.length=size) (hf:off+size<=cells.size) :
 Instr.fill place cells ((i,v) :: rest)=Instr.fill place (cells.toList.take off++seg++cells.toList.drop (off+size)).toArray rest:=by
 conv=>lhs;unfold Instr.fill
 rw [hp];simp only [hv,List.size_toArray,hs];rw [if_neg (by simp;omega)]
 congr 1
 apply Array.ext';have:=FB seg 0 off cells (by simpa [hs] using hf);simp only [Nat.add_zero,hs] at this;rw [<- this];simp
def typeAt:Ty->Nat->Option Ty
 | .prod a _,0=>some a
 | .prod _ b,n+1=>typeAt b n
 | _,_=>none
theorem Ia:∀ (t:Ty) (cs:List Value) (x:t.den) (i:Nat) (s:S) (x':t.den) (v:Value),af M w t cs x->aI M w st a v s->eL t x i s=some x' ->
 ∃ u seg,typeAt t i=some u/\v.cells=seg.toArray/\seg.length=u.size/\bM t i+u.size<=t.size/\af M w t (cs.take (bM t i)++seg++cs.drop (bM t i+u.size)) x'
 | .prod p q,cs,x,0,s,x',v,h,hs,e=>by
  simp only [eL] at e;cases hy:s.as p with
  | none=>rw [hy] at e;cases e
  | some y =>
   rw [hy] at e;cases e;obtain ⟨seg,e1,e2⟩:=cO hs hy;obtain ⟨c1,c2,rfl,h1,h2⟩:=h;have hl:=af.length _ _ _ h1;refine ⟨p,seg,rfl,by rw [e1];exact md e2,af.length _ _ _ e2,by simp [bM,Ty.size],⟨seg,c2,?_,e2,h2⟩⟩;simp only [bM,List.take_zero,List.nil_append,Nat.zero_add];rw [<- hl,List.drop_left]
 | .prod p q,cs,x,i+1,s,x',v,h,hs,e=>by
  simp only [eL] at e;cases hy:eL q x.2 i s with
  | none=>rw [hy] at e;cases e
  | some y =>
   rw [hy] at e;cases e;obtain ⟨c1,c2,rfl,h1,h2⟩:=h;have hl:=af.length _ _ _ h1;obtain ⟨u,seg,k1,k2,k3,k4,k5⟩:=Ia q c2 x.2 i s y v h2 hs hy;refine ⟨u,seg,k1,k2,k3,by simp only [bM,Ty.size];omega,⟨c1,c2.take (bM q i)++seg++c2.drop (bM q i+u.size),?_,h1,k5⟩⟩;simp only [bM];rw [<- hl,Nat.add_assoc,List.take_append,List.drop_append];simp [List.take_of_length_le,List.drop_eq_nil_of_le,Nat.le_add_right]
 | .unit,_,_,_,_,_,_,_,_,e=>by simp [eL] at e
 | .int _,_,_,_,_,_,_,_,_,e=>by simp [eL] at e
 | .bool,_,_,_,_,_,_,_,_,e=>by simp [eL] at e
 | .str,_,_,_,_,_,_,_,_,e=>by simp [eL] at e
 | .list _,_,_,_,_,_,_,_,_,e=>by simp [eL] at e
 | .raw,_,_,_,_,_,_,_,_,e=>by simp [eL] at e
 | .opq,_,_,_,_,_,_,_,_,e=>by simp [eL] at e
 | .dyn _ _,_,_,_,_,_,_,_,_,e=>by simp [eL] at e
 | .ptr _,_,_,_,_,_,_,_,_,e=>by simp [eL] at e
 | .clo _ _ _,_,_,_,_,_,_,_,_,e=>by simp [eL] at e
theorem AS (hg:Good M0 F M st a w) {t:Ty} {place:Nat->Option (Nat×Nat)} (hp:∀ i u,typeAt t i=some u->place i=some (bM t i,u.size)) :
 ∀ (ps:List (Nat×Operand)) (cs:List Value) (x x':t.den),af M w t cs x->km t st ps x=some x' ->
  ∃ cs',Instr.fill place cs.toArray (ps.map fun p=>(p.1,a.eval p.2))=some cs'.toArray/\af M w t cs' x'
 | [],cs,x,x',h,e=>by
  simp only [km,Option.some.injEq] at e;subst e;exact ⟨cs,rfl,h⟩
 | (i,p) :: ps,cs,x,x',h,e=>by
  simp only [km] at e;cases hy:eL t x i (ak st p) with
  | none=>rw [hy] at e;cases e
  | some y =>
   rw [hy] at e;obtain ⟨u,seg,k1,k2,k3,k4,k5⟩:=Ia t cs x i _ y _ h (bx hg p) hy;have hl:=af.length _ _ _ h;obtain ⟨cs',f1,f2⟩:=AS hg hp ps _ y x' k5 e;refine ⟨cs',?_,f2⟩;rw [List.map_cons,Fv (hp i u k1) k2 k3 (by simp;omega)];exact f1
def iL:Nat->Ty->List (Nat×Nat)
 | off,.prod a b=>(off,a.size) :: iL (off+a.size) b
 | _,_=>[]
theorem Hs:∀ (t:Ty) (off i:Nat) (u:Ty),typeAt t i=some u->(iL off t)[i]? = some (off+bM t i,u.size)
 | .prod p q,off,0,u,h=>by simp only [typeAt,Option.some.injEq] at h;subst h;simp [iL,bM]
 | .prod p q,off,i+1,u,h=>by
  simp only [typeAt] at h;have:=Hs q (off+p.size) i u h;simp only [iL,List.getElem?_cons_succ,this,bM]
  congr 2;omega
 | .unit,_,_,_,h=>by simp [typeAt] at h
 | .int _,_,_,_,h=>by simp [typeAt] at h
 | .bool,_,_,_,h=>by simp [typeAt] at h
 | .str,_,_,_,h=>by simp [typeAt] at h
 | .list _,_,_,_,h=>by simp [typeAt] at h
 | .raw,_,_,_,h=>by simp [typeAt] at h
 | .opq,_,_,_,h=>by simp [typeAt] at h
 | .dyn _ _,_,_,_,h=>by simp [typeAt] at h
 | .ptr _,_,_,_,h=>by simp [typeAt] at h
 | .clo _ _ _,_,_,_,h=>by simp [typeAt] at h
theorem H7 {m:Nat}:∀ (fs:List Field) (off:Nat) (t:Ty),dt (bj P m) off fs=some t->∀ w,
 (fs.mapM (m:=Sem) fun f=>do pure (f.offset,<- sizeOf f.type)).run P w = .ok (iL off t) w
 | [],off,t,h,w=>by simp [dt] at h;subst h;simp [iL]
 | x :: xs,off,t,h,w=>by
  unfold dt at h;cases hx:bj P m x.type with
  | none=>rw [hx] at h;cases h
  | some u =>
   rw [hx] at h;dsimp only at h;split at h
   . rename_i hc;cases hr:dt (bj P m) (off+u.size) xs with
     | none=>rw [hr] at h;cases h
     | some r =>
      rw [hr] at h;cases h;have ih:=H7 xs _ r hr w;simp at hc;rw [List.mapM_cons];simp only [Sem.run_bind,fq hx,Result.andThen_ok,Sem.run_pure,ih,iL,hc.1]
   . cases h
theorem JN (e:Ty):∀ (n i:Nat) (u:Ty),typeAt (cL e n) i=some u->u=e/\bM (cL e n) i=i * e.size
 | 0,i,u,h=>by simp [cL,typeAt] at h
 | n+1,0,u,h=>by simp only [cL,typeAt,Option.some.injEq] at h;exact ⟨h.symm,by simp [cL,bM]⟩
 | n+1,i+1,u,h=>by
  simp only [cL,typeAt] at h;obtain ⟨h1,h2⟩:=JN e n i u h;refine ⟨h1,?_⟩;simp only [cL,bM,h2];rw [Nat.add_mul];omega
theorem TA (hg:Good M0 F M st a w) (hb:Fr F w0 w) (hnb:aN st o) {T:TypeId} {ps:Array (Nat×Operand)} (ho:o.op = .build T ps)
 {c:Bool} {rd:Nat} {wr:List (Nat×S)} (h:az P Φ o st = .eff c rd wr):aU P F M0 w0 o a w (app wr st):=by
 simp only [az,ho] at h;split at h;rotate_left
 . cases h
 rename_i t ht;split at h;rotate_left
 . cases h
 rename_i hz;simp only [Bool.and_eq_true] at hz;obtain ⟨hagg,hz⟩:=hz;split at h;rotate_left
 . cases h
 rename_i v hv;obtain ⟨i,z,cs,hi,hzz,ez,ecs,r1,_⟩:=tT (M:=M) (w:=w) hz;have hzr:(zeroValue T).run P w = .ok z w:=by simp [zeroValue,typeInfo,hi,hzz]
 obtain ⟨m,_,d,hd,hdt⟩:=jD ht;have hmap:(ps.map fun p=>(p.1,a.eval p.2)).toList=ps.toList.map fun p=>(p.1,a.eval p.2):=by simp
 have key:∃ cs',(Instr.build T (ps.map fun p=>(p.1,a.eval p.2))).run P w = .ok (.agg cs'.toArray) w/\af M w t cs' v:=by
  cases d with
  | struct fs =>
   have hpl:∀ i u,typeAt t i=some u->(iL 0 t).toArray[i]? = some (bM t i,u.size):=fun i u h=>by
    have:=Hs t 0 i u h
    simpa using this
   obtain ⟨cs',f1,f2⟩:=AS hg (place:=fun i=>(iL 0 t).toArray[i]?) hpl ps.toList cs _ _ r1 hv;refine ⟨cs',?_,f2⟩;have hp:=H7 (P:=P) fs.toList 0 t hdt w;have hp':(fs.mapM (m:=Sem) fun f=>do pure (f.offset,<- sizeOf f.type)).run P w = .ok (iL 0 t).toArray w:=by
    rw [Array.mapM_eq_mapM_toList,Sem.run_map,hp];rfl
   unfold Instr.build;simp only [Sem.run_bind,hzr,Result.andThen_ok,run_underlying hd,ecs];rw [hp'];simp only [Result.andThen_ok,hmap];rw [f1];rfl
  | array len E =>
   simp only [cV] at hdt;cases hE:bj P m E with
   | none=>rw [hE] at hdt;cases hdt
   | some e =>
    rw [hE] at hdt;dsimp only at hdt;split at hdt
    . cases hdt
    . cases hdt;obtain ⟨cs',f1,f2⟩:=AS hg (place:=fun i=>some (i * e.size,e.size)) (fun i u h=>by obtain ⟨rfl,h2⟩:=JN e len i u h;rw [h2]) ps.toList cs _ _ r1 hv;refine ⟨cs',?_,f2⟩;unfold Instr.build;simp only [Sem.run_bind,hzr,Result.andThen_ok,run_underlying hd,ecs,fq hE,hmap];rw [f1];rfl
  | slice E =>
   obtain ⟨e,m',rfl,_⟩:=JM ht hd;simp [Ty.agg] at hagg
  | _=>simp [cV] at hdt<;>subst hdt<;>simp [Ty.agg] at hagg
 obtain ⟨cs',k1,k2⟩:=key;refine aX hg hb hnb h rfl (v:=.agg cs'.toArray) ?_ ⟨cs',by rw [aP,if_pos hagg],k2⟩;have:(ps.map fun (x:Nat×Operand)=>(x.1,a.eval x.2))=(ps.map fun p=>(p.1,a.eval p.2)):=rfl;simp only [execOp,ho,Sem.run_bind,Sem.run_pure];rw [show (Array.map (fun x:Nat×Operand=>match x with|(i,x)=>(i,a.eval x)) ps)=(ps.map fun p=>(p.1,a.eval p.2)) from rfl,k1];rfl
end
open Go.RowKit (Below)
section
variable {P : Program} {Φ : Nat → List Spec} {F : Nat → Prop} {M0 : Base} {w0 : World} {M : ai} {st : St} {a : Act} {w : World} {o : Oper}
def bT (M:ai) (w:World) (e:Ty):List (List Value)->List e.den->Prop
 | [],[]=>True
 | s :: ss,x :: xs=>af M w e s x/\bT M w e ss xs
 | _,_=>False
theorem bT.len {e:Ty}:∀ {ss:List (List Value)} {xs:List e.den},bT M w e ss xs->ss.length=xs.length
 | [],[],_=>rfl
 | _ :: _,_ :: _,h=>by simp [bT.len h.2]
 | [],_ :: _,h=>h.elim
 | _ :: _,[],h=>h.elim
theorem bT.flat {e:Ty}:∀ {ss:List (List Value)} {xs:List e.den},bT M w e ss xs->ss.flatten.length=xs.length * e.size
 | [],[],_=>by simp
 | s :: ss,x :: xs,h=>by
  simp only [List.flatten_cons,List.length_append,af.length _ _ _ h.1,bT.flat h.2,List.length_cons];rw [Nat.add_mul];omega
 | [],_ :: _,h=>h.elim
 | _ :: _,[],h=>h.elim
theorem bT.one {e:Ty}:∀ {ss:List (List Value)} {xs:List e.den},bT M w e ss xs->∀ v∈ss.flatten,v.oneCell'=true
 | [],[],_,v,hv=>by simp at hv
 | s :: ss,x :: xs,h,v,hv=>by
  rw [List.flatten_cons,List.mem_append] at hv;rcases hv with hv|hv
  . exact (af.one _ _ _ h.1 v hv).1
  . exact bT.one h.2 v hv
 | [],_ :: _,h,_,_=>h.elim
 | _ :: _,[],h,_,_=>h.elim
theorem bT.app {e:Ty}:∀ {ss ts:List (List Value)} {xs ys:List e.den},bT M w e ss xs->bT M w e ts ys->bT M w e (ss++ts) (xs++ys)
 | [],_,[],_,_,k=>k
 | s :: ss,_,x :: xs,_,h,k=>⟨h.1,bT.app h.2 k⟩
 | [],_,_ :: _,_,h,_=>h.elim
 | _ :: _,_,[],_,h,_=>h.elim
theorem bT.mono {M':ai} {w':World} (hs:aL M w M' w') {e:Ty}:∀ {ss:List (List Value)} {xs:List e.den},bT M w e ss xs->bT M' w' e ss xs
 | [],[],_=>trivial
 | s :: ss,x :: xs,h=>⟨af.mono hs _ _ _ h.1,bT.mono hs h.2⟩
 | [],_ :: _,h=>h.elim
 | _ :: _,[],h=>h.elim
theorem bT.get {e:Ty}:∀ {ss:List (List Value)} {xs:List e.den},bT M w e ss xs->∀ (i:Nat) (hi:i<xs.length) (hj:i<ss.length),af M w e ss[i] xs[i]
 | s :: ss,x :: xs,h,0,_,_=>h.1
 | s :: ss,x :: xs,h,i+1,hi,hj=>by simpa using bT.get h.2 i (by simpa using hi) (by simpa using hj)
 | [],[],_,i,hi,_=>absurd hi (by simp)
 | [],_ :: _,h,_,_,_=>h.elim
 | _ :: _,[],h,_,_,_=>h.elim
theorem yI (sz:Nat):∀ (ss:List (List Value)),(∀ s∈ss,s.length=sz)->∀ (i j:Nat) (hi:i<ss.length) (hj:j<sz),ss.flatten[i * sz+j]? = (ss[i])[j]?
 | s :: ss,h,0,j,_,hj=>by
  have:=h s (by simp);simp [List.getElem?_append,this,hj]
 | s :: ss,h,i+1,j,hi,hj=>by
  have hl:=h s (by simp);have:=yI sz ss (fun s hs=>h s (by simp [hs])) i j (by simpa using hi) hj;rw [List.flatten_cons,List.getElem?_append_right (by rw [hl,Nat.add_mul];omega),hl];rw [show (i+1) * sz+j - sz=i * sz+j from by rw [Nat.add_mul];omega]
  simpa using this
 | [],_,i,_,hi,_=>absurd hi (by simp)
theorem bT.sizes {e:Ty}:∀ {ss:List (List Value)} {xs:List e.den},bT M w e ss xs->∀ s∈ss,s.length=e.size
 | [],[],_,s,hs=>by simp at hs
 | t :: ss,x :: xs,h,s,hs=>by
  rcases List.mem_cons.1 hs with rfl|hs
  . exact af.length _ _ _ h.1
  . exact bT.sizes h.2 s hs
 | [],_ :: _,h,_,_=>h.elim
 | _ :: _,[],h,_,_=>h.elim
theorem GA {e:Ty} {v:Value} {xs:List e.den} (h:af M w (.list e) [v] xs) :
 ∃ ss p cap,v = .slice p xs.length cap/\xs.length<=cap/\bT M w e ss xs/\(0<xs.length->∃ b o,p=some ⟨b,o,none⟩/\∀ j u,ss.flatten[j]? = some u->w.cell? ⟨b,o+j,none⟩=some u/\¬ M b (o+j)):=by
 obtain ⟨p,cap,f1,f2,f3⟩:=h;simp only [List.cons.injEq,and_true] at f1;have key:∀ n (ys:List e.den),ys.length=n->n<=xs.length->(∀ i (hi:i<ys.length) (hx:i<xs.length),ys[i]=xs[i]) ->
  ∃ ss,bT M w e ss ys/\∀ b o,p=some ⟨b,o,none⟩->∀ j u,ss.flatten[j]? = some u->w.cell? ⟨b,o+j,none⟩=some u/\¬ M b (o+j):=by
  intro n
  induction n with
  | zero=>intro ys h0 _ _;have:ys=[]:=List.eq_nil_of_length_eq_zero h0;subst this;exact ⟨[],trivial,fun _ _ _ j u hj=>by simp at hj⟩
  | succ n ih =>
   intro ys hl hle hy;have hne:ys≠[]:=by intro h';subst h';simp at hl
   obtain ⟨ss,s1,s2⟩:=ih ys.dropLast (by simp [hl]) (by omega) (fun i hi hx=>by
    rw [List.getElem_dropLast];exact hy i (by simp at hi;omega) hx)
   have hlast:ys.getLast hne=xs[n]'(by omega):=by
    rw [List.getLast_eq_getElem];have:=hy n (by omega) (by omega);simp only [hl];exact this
   obtain ⟨b,o,ec,g1,g2,g3,g4⟩:=f3 n (by omega);refine ⟨ss++[ec],?_,fun b' o' hp j u hj=>?_⟩
   . rw [<- List.dropLast_concat_getLast hne];exact s1.app ⟨by rw [hlast];exact g4,trivial⟩
   . rw [g1] at hp;cases hp;rw [List.flatten_append,List.getElem?_append] at hj;split at hj
     . exact s2 b o g1 j u hj
     . rename_i hge;have hfl:=s1.flat;rw [List.length_dropLast,hl] at hfl;simp only [Nat.add_sub_cancel] at hfl;simp only [List.flatten_cons,List.flatten_nil,List.append_nil] at hj;obtain ⟨hlt,e'⟩:=List.getElem?_eq_some_iff.1 hj;have:=g3 (j - ss.flatten.length) hlt;rw [e'] at this;rw [show o+n * e.size+(j - ss.flatten.length)=o+j from by omega] at this;exact this
 obtain ⟨ss,s1,s2⟩:=key xs.length xs rfl (Nat.le_refl _) (fun _ _ _=>rfl);refine ⟨ss,p,cap,f1,f2,s1,fun hpos=>?_⟩;obtain ⟨b,o,ec,g1,_⟩:=f3 0 hpos;exact ⟨b,o,g1,s2 b o g1⟩
theorem H_ {e:Ty} {ss:List (List Value)} {xs:List e.den} {b o cap:Nat} (h:bT M w e ss xs) (hcap:xs.length<=cap)
 (hc:∀ j u,ss.flatten[j]? = some u->w.cell? ⟨b,o+j,none⟩=some u/\¬ M b (o+j)):af M w (.list e) [.slice (some ⟨b,o,none⟩) xs.length cap] xs:=by
 refine ⟨_,cap,rfl,hcap,fun i hi=>?_⟩;have hlen:=h.len;have hsz:=h.sizes;refine ⟨b,o,ss[i]'(by omega),rfl,hsz _ (List.getElem_mem _),fun j hj=>?_,h.get i hi (by omega)⟩;have hjs:j<e.size:=by rw [hsz _ (List.getElem_mem _)] at hj;exact hj
 have:=yI e.size ss hsz i j (by omega) hjs;rw [List.getElem?_eq_getElem hj] at this;have:=hc _ _ this;rw [show o+(i * e.size+j)=o+i * e.size+j from by omega] at this;exact this
theorem G0 (hg:Good M0 F M st a w) (hb:Fr F w0 w) (hnb:aN st o) {e:Ty} {ss:List (List Value)} {xs:List e.den} (hs:bT M w e ss xs) {cap:Nat} {extra:List Value} {E:TypeId}
 (hcap:xs.length<=cap) (hm:cap<=maxLen) (hsz:(ss.flatten++extra).length=cap * e.size) :
 ∃ M',Good M0 F M' (app (o.dst.toList.map (·,S.own e xs true)) st) (a.put o.dst (.slice (some ⟨w.heap.size,0,none⟩) xs.length cap)) (w.alloc (.cells (ss.flatten++extra).toArray E)):=by
 have h1:=hg.alloc (.cells (ss.flatten++extra).toArray E) (fun o=>xs.length * e.size<=o);have hst:=od M w (.cells (ss.flatten++extra).toArray E) (fun o=>xs.length * e.size<=o);have hnew:=heap_alloc_new w (.cells (ss.flatten++extra).toArray E);refine ⟨_,h1.fin_own hnb (H_ (hs.mono hst) hcap fun j u hj=>?_) (.inr ⟨w.heap.size,cap,_,E,rfl,hnew,hcap,hm,by simpa using hsz,fun o ho=>.inr ⟨rfl,ho⟩⟩) ?_⟩
 . have hlt:j<ss.flatten.length:=(List.getElem?_eq_some_iff.1 hj).1;rw [Nat.zero_add,cell_of_row _ _ j _ E (0,0) hnew];refine ⟨by simp only [List.getElem?_toArray,List.getElem?_append_left hlt];exact hj,?_⟩;rintro (hm|⟨_,hge⟩)
   . have:=hg.lt _ _ hm;omega
   . rw [hs.flat] at hlt;omega
 . intro b hbb;simp [ag] at hbb;subst hbb;exact ⟨fun hF=>absurd (hg.room _ hF) (Nat.lt_irrefl _),fun j l ho=>absurd (cH hg.slot (cM (fun i b ho'=>heap_alloc_old w _ b (cH hg.slot ho')) ho)) (by omega)⟩
theorem U3 {e:Ty} {ss:List (List Value)} {xs:List e.den} (hs:bT M w e ss xs) (extra:List Value) (i:Nat) (hi:i<xs.length) :
 af M w e (((ss.flatten++extra).drop (i * e.size)).take e.size) xs[i]:=by
 have hlen:=hs.len;have hsz:=hs.sizes;have:((ss.flatten++extra).drop (i * e.size)).take e.size=ss[i]'(by omega):=by
  apply List.ext_getElem?;intro j;rw [List.getElem?_take];have hl:(ss[i]'(by omega)).length=e.size:=hsz _ (List.getElem_mem _);split
  . rename_i hj;have hb:i * e.size+j<ss.flatten.length:=by
     rw [hs.flat];have:(i+1) * e.size<=xs.length * e.size:=Nat.mul_le_mul_right _ hi;rw [Nat.add_mul] at this;omega
    rw [List.getElem?_drop,List.getElem?_append_left hb];exact yI e.size ss hsz i j (by omega) hj
  . rw [List.getElem?_eq_none (by omega)]
 rw [this];exact hs.get i hi (by omega)
theorem Th (hg:Good M0 F M st a w) (hb:Fr F w0 w) (hnb:aN st o) {e:Ty} {ss:List (List Value)} {xs:List e.den} (hs:bT M w e ss xs) {cap:Nat} {extra:List Value} {E:TypeId}
 (hcap:xs.length<=cap) (hm:cap<=maxLen) (hsz:(ss.flatten++extra).length=cap * e.size) :
 ∃ M',Good M0 F M' (app (o.dst.toList.map (·,S.arr e xs true)) st) (a.put o.dst (.slice (some ⟨w.heap.size,0,none⟩) xs.length cap)) (w.alloc (.cells (ss.flatten++extra).toArray E)):=by
 have h1:=hg.alloc (.cells (ss.flatten++extra).toArray E) (fun _=>True);have hst:=od M w (.cells (ss.flatten++extra).toArray E) (fun _=>True);have hnew:=heap_alloc_new w (.cells (ss.flatten++extra).toArray E);refine ⟨_,h1.fin_arr hnb (.inr ⟨w.heap.size,cap,_,E,rfl,hnew,hcap,hm,by simpa using hsz,fun o=>.inr ⟨rfl,trivial⟩,fun i hi=>?_⟩) ?_⟩
 . have:=U3 (hs.mono hst) extra i hi
   simpa using this
 . intro b hbb;simp [ag] at hbb;subst hbb;exact ⟨fun hF=>absurd (hg.room _ hF) (Nat.lt_irrefl _),fun j l ho=>absurd (cH hg.slot (cM (fun i b ho'=>heap_alloc_old w _ b (cH hg.slot ho')) ho)) (by omega)⟩
theorem Fu (sz:Nat):∀ (vs:List (Value×List Value)) (k:Nat) (pre rest:List Value),pre.length=k * sz->rest.length=vs.length * sz->(∀ p∈vs,p.1.cells=p.2.toArray/\p.2.length=sz) ->
 Instr.fill (fun i=>some (i * sz,sz)) (pre++rest).toArray ((vs.zipIdx k).map fun p=>(p.2,p.1.1))=some (pre++(vs.map (·.2)).flatten).toArray
 | [],k,pre,rest,_,h2,_=>by
  have:rest=[]:=List.eq_nil_of_length_eq_zero (by simpa using h2);subst this;simp [Instr.fill]
 | p :: vs,k,pre,rest,h1,h2,h3=>by
  obtain ⟨g1,g2⟩:=h3 p (by simp);simp only [List.length_cons,Nat.add_mul,Nat.one_mul] at h2;rw [List.zipIdx_cons,List.map_cons,Fv (off:=k * sz) (size:=sz) rfl g1 g2 (by simp;omega)];have e1:(pre++rest).toArray.toList.take (k * sz)=pre:=by simp [<- h1]
  have e2:(pre++rest).toArray.toList.drop (k * sz+sz)=rest.drop sz:=by
   simp only [<- h1];rw [<- List.drop_drop];simp
  rw [e1,e2];have:=Fu sz vs (k+1) (pre++p.2) (rest.drop sz) (by simp [h1,g2,Nat.add_mul]) (by simp;omega) (fun q hq=>h3 q (by simp [hq]));rw [this];simp
theorem GL (hg:Good M0 F M st a w) {e:Ty}:∀ (ps:List (Nat×Operand)) (xs:List e.den),ps.mapM (fun p=>(ak st p.2).as e)=some xs ->
 ∃ ss,bT M w e ss xs/\ss.length=ps.length/\∀ q∈(ps.map (fun p=>a.eval p.2)).zip ss,q.1.cells=q.2.toArray/\q.2.length=e.size
 | [],xs,h=>by simp at h;subst h;exact ⟨[],trivial,rfl,by simp⟩
 | p :: ps,xs,h=>by
  rw [List.mapM_cons] at h;cases hx:(ak st p.2).as e with
  | none=>rw [hx] at h;cases h
  | some y =>
   rw [hx] at h;cases hr:ps.mapM (fun p=>(ak st p.2).as e) with
   | none=>simp [hr] at h
   | some ys =>
    simp [hr] at h;subst h;obtain ⟨ss,s1,s2,s3⟩:=GL hg ps ys hr;obtain ⟨cs,c1,c2⟩:=cO (bx hg p.2) hx;refine ⟨cs :: ss,⟨c2,s1⟩,by simp [s2],fun q hq=>?_⟩;simp only [List.map_cons,List.zip_cons_cons,List.mem_cons] at hq;rcases hq with rfl|hq
    . exact ⟨by rw [c1];exact md c2,af.length _ _ _ c2⟩
    . exact s3 q hq
theorem LN (hg:Good M0 F M st a w) (hb:Fr F w0 w) (hnb:aN st o) {T:TypeId} {n:Nat} {ps:Array (Nat×Operand)} (ho:o.op = .buildSlice T n ps)
 {k:Nat} {e:Ty} (ht:bj P k T=some (.list e)) (hn:n=ps.size) (hn2:n * e.size<=10000) (hidx:ps.toList.map (·.1)=List.range n) {xs:List e.den} (hxs:ps.toList.mapM (fun p=>(ak st p.2).as e)=some xs) :
 aU P F M0 w0 o a w (app (o.dst.toList.map (·,S.own e xs true)) st):=by
 obtain ⟨E,m,hu,hE,hpos⟩:=mh ht;obtain ⟨i,hi,hsz,_,z,hz,hzs⟩:=rN hE;obtain ⟨ss,s1,s2,s3⟩:=GL hg ps.toList xs hxs;have hlen:=s1.len;have hnl:ps.toList.length=n:=by simp [hn]
 have hxl:xs.length=n:=by rw [<- hlen,s2,hnl]
 have hnm:n<=maxLen:=by
  have:n<=n * e.size:=Nat.le_mul_of_pos_right n hpos;unfold maxLen;omega
 obtain ⟨M',hg'⟩:=G0 hg hb hnb (o:=o) s1 (cap:=n) (extra:=[]) (E:=E) (by omega) hnm (by rw [List.append_nil,s1.flat,hxl]);rw [List.append_nil,hxl] at hg';refine ⟨.slice (some ⟨w.heap.size,0,none⟩) n n,w.alloc (.cells ss.flatten.toArray E),.inl ?_,hb.alloc hg.room _,M',hg'⟩;have hgt:¬ n * e.size > 2 ^ 24:=by omega
 have hps:(ps.map fun p=>(p.1,a.eval p.2)).toList=((((ps.toList.map fun p=>a.eval p.2).zip ss).zipIdx 0).map fun p=>(p.2,p.1.1)):=by
  apply List.ext_getElem
  . simp [s2]
  . intro j h1 h2;simp at h1;have:(ps.toList.map (·.1))[j]'(by simpa using h1)=(List.range n)[j]'(by simp;omega):=by simp only [hidx]
    simp at this;simp [this]
 have hfill:∀ (tmpl:Array Value),tmpl.size=n * e.size->Instr.fill (fun i=>some (i * e.size,e.size)) tmpl (ps.map fun p=>(p.1,a.eval p.2)).toList=some ss.flatten.toArray:=by
  intro tmpl ht;have:=Fu e.size ((ps.toList.map fun p=>a.eval p.2).zip ss) 0 [] tmpl.toList (by simp) (by simp [ht,s2,hn]) s3;rw [hps];simp only [List.nil_append,Array.toArray_toList] at this;rw [this]
  congr 2
  congr 1
  rw [List.map_snd_zip];simp [s2]
 have hrun:(Instr.buildSlice T n (ps.map fun p=>(p.1,a.eval p.2))).run P w = .ok (.slice (some ⟨w.heap.size,0,none⟩) n n) (w.alloc (.cells ss.flatten.toArray E)):=by
  unfold Instr.buildSlice;simp only [Sem.run_bind,run_underlying hu,Result.andThen_ok,fq hE,Sem.run_ite,if_neg hgt,Sem.run_pure]
  by_cases h0:n * e.size=0
  . simp only [if_pos h0,Result.andThen_ok];rw [hfill _ (by simp)];rfl
  . simp only [if_neg h0,Sem.run_bind,zeroValue,typeInfo,run_program,Result.andThen_ok,hi,Sem.run_pure,hz];rw [hfill _ (by simp)];rfl
 simp only [execOp,ho,Sem.run_bind,Sem.run_pure];rw [show (Array.map (fun x:Nat×Operand=>match x with|(i,x)=>(i,a.eval x)) ps)=(ps.map fun p=>(p.1,a.eval p.2)) from rfl,hrun];rfl
theorem TC (hg:Good M0 F M st a w) (hb:Fr F w0 w) (hnb:aN st o) {T:TypeId} {n:Nat} {ps:Array (Nat×Operand)} (ho:o.op = .buildSlice T n ps)
 {c:Bool} {rd:Nat} {wr:List (Nat×S)} (h:az P Φ o st = .eff c rd wr):aU P F M0 w0 o a w (app wr st):=by
 simp only [az,ho] at h;split at h
 . rename_i e ht;split at h
   . rename_i hc;split at h
     . rename_i xs hxs;simp only [Pre.eff.injEq] at h;obtain ⟨_,_,rfl⟩:=h;exact LN hg hb hnb ho ht hc.1 hc.2.1 hc.2.2 hxs
     . cases h
   . cases h
 . cases h
theorem uZ {e:Ty} {v:Value} {xs:List e.den} (h:aw M w (.list e) v xs):∃ ss,bT M w e ss xs/\(∀ w',(Builtin.lenOf v).run P w' = .ok xs.length w') /\
 ∀ w',(∀ p,w'.cell? p=w.cell? p)->(Builtin.firstCells e.size xs.length v).run P w' = .ok ss.flatten.toArray w':=by
 obtain ⟨ss,p,cap,f1,f2,f3,f4⟩:=GA (ra h);subst f1;refine ⟨ss,f3,fun w'=>rfl,fun w' hw'=>?_⟩;have hfl:=f3.flat
 by_cases hpos:0<xs.length
 . obtain ⟨b,o,rfl,g⟩:=f4 hpos;exact run_firstCells_some (P:=P) w' e.size xs.length ⟨b,o,none⟩ xs.length cap ss.flatten hfl fun j u hj=>by
    rw [gh,hw'];exact (g j u hj).1
 . have h0:xs.length=0:=by omega
   rw [h0,Nat.zero_mul] at hfl;have:ss.flatten=[]:=List.eq_nil_of_length_eq_zero hfl;rw [this,h0];cases p with
   | none=>rfl
   | some p=>simp [Builtin.firstCells,loadCells,loadCellsFrom]
end
open Go.RowKit (Below)
section
variable {P : Program} {Φ : Nat → List Spec} {F : Nat → Prop} {M0 : Base} {w0 : World} {M : ai} {st : St} {a : Act} {w : World} {o : Oper}
theorem run_append_room (T ty E:TypeId) (i:TypeInfo) (ht:P.underlying T=some (.slice E)) (hi:P.info? E=some i) {g sLen sCap n:Nat} {cur:Array Value} {T':TypeId}
 (hh:w.heap[g]? = some (.cells cur T' (0,0))) {y:Value} {news:List Value} (hl:(Builtin.lenOf y).run P w = .ok n w) (hy:(Builtin.firstCells i.size n y).run P w = .ok news.toArray w)
 (h1:∀ u∈news,u.oneCell'=true) (hroom:sLen+n<=sCap) (hfit:sLen * i.size+news.length<=cur.size) :
 (Builtin.append_ #[T,T] ty #[.slice (some ⟨g,0,none⟩) sLen sCap,y]).run P w =
  .ok (.slice (some ⟨g,0,none⟩) (sLen+n) sCap) (w.setRow g (cur.toList.take (sLen * i.size)++news++cur.toList.drop (sLen * i.size+news.length)).toArray):=by
 have hst:=run_storeCells_at P g (sLen * i.size) T' news 0 cur w hh (by simpa using hfit) h1;simp only [Nat.add_zero] at hst;simp [Builtin.append_,run_underlying ht,sizeOf,typeInfo,hi,hl,hroom,hy,gh,hst]
theorem H5 (T ty E:TypeId) (i:TypeInfo) (z:Value) (ht:P.underlying T=some (.slice E)) (hi:P.info? E=some i) (hz:i.zero=some z) {base:Option Addr} {sLen sCap n:Nat}
 {y:Value} {olds news:List Value} (hl:(Builtin.lenOf y).run P w = .ok n w) (hy:(Builtin.firstCells i.size n y).run P w.drew = .ok news.toArray w.drew)
 (ho:(Builtin.firstCells i.size sLen (.slice base sLen sCap)).run P w.drew = .ok olds.toArray w.drew)
 (hg:sCap<sLen+n) (h63:sLen+n<1000000) (hby:i.bytes<=1000) :
 (Builtin.append_ #[T,T] ty #[.slice base sLen sCap,y]).run P w =
  .ok (.slice (some ⟨w.heap.size,0,none⟩) (sLen+n) (grownCap w (sLen+n) sCap E))
   (w.drew.alloc (.cells ((olds++news)++(Builtin.zeroCells z.cells (grownCap w (sLen+n) sCap E - (sLen+n))).toList).toArray E)):=by
 have hn:¬ (sLen+n<=sCap):=by omega
 have h63':¬ (9223372036854775807<((sLen:Int)+(n:Int))):=by omega
 have hbb:(sLen+n) * i.bytes<=140737488355328:=by
  have:(sLen+n) * i.bytes<=1000000 * 1000:=Nat.mul_le_mul (by omega) hby;omega
 have h48':¬ (281474976710656<Builtin.nextslicecap (sLen+n) sCap * i.bytes):=by
  have:=growslice_fits hg hbb;omega
 simp [Builtin.append_,run_underlying ht,sizeOf,typeInfo,zeroValue,hi,hz,hl,hn,h63',h48',Question.forced,hy,ho,newRow,grownCap]
 congr 2
 apply Array.ext';simp
theorem LB (hg:Good M0 F M st a w) (hb:Fr F w0 w) (hnb:aN st o) {k:Nat} {T:TypeId} {e:Ty} (ht:bj P k T=some (.list e)) {x y:Operand} {cl:Call} (ho:o.op = .call cl)
 (h1:cl.callee = .builtin .append) (h2:cl.argTypes = #[T,T]) (h3:cl.args = #[x,y]) {ys:List e.den} (ex:a.eval x = .slice none 0 0) (hy:aw M w (.list e) (a.eval y) ys) (hf:bQ ([]:List e.den) ys=true) :
 aU P F M0 w0 o a w (app (o.dst.toList.map (·,S.arr e ys true)) st):=by
 obtain ⟨E,m,hu,hE,hpos⟩:=mh ht;obtain ⟨i,hi,hsz,hby,z,hz,hzs⟩:=rN hE;have hf':ys.length<1000000:=by simpa [bQ] using hf
 obtain ⟨sy,y1,y2,y3⟩:=uZ (P:=P) hy;have hyl:=y1.flat;have hrun:∀ v w',(Builtin.append_ #[T,T] o.type #[a.eval x,a.eval y]).run P w = .ok v w'->(execOp a.eval o).run P w = .ok (.value v) w':=fun v w' e=>by
  obtain ⟨callee,args,argTypes⟩:=cl;simp only at h1 h2 h3;subst h1;subst h2;subst h3;simp [execOp,ho,resolve,invoke,builtin,e]
 by_cases hy0:ys.length=0
 . have hyn:ys=[]:=List.eq_nil_of_length_eq_zero hy0;subst hyn;refine ⟨.slice none 0 0,w,.inl (hrun _ _ ?_),hb,M,hg.fin_arr hnb (.inl ⟨rfl,rfl⟩) (by simp [ag])⟩;have hfl:sy.flatten=[]:=List.eq_nil_of_length_eq_zero (by rw [hyl];simp);have hy2:=y2 w;have hy3:=y3 w fun _=>rfl
   rw [hfl] at hy3;simp only [List.length_nil] at hy2 hy3;rw [ex];simp [Builtin.append_,run_underlying hu,sizeOf,typeInfo,hi,hy2,hsz,hy3]
 . have hx0:(Builtin.firstCells e.size 0 (.slice none 0 0)).run P w.drew = .ok ([]:List Value).toArray w.drew:=by
    obtain ⟨sx,x1,x2,x3⟩:=uZ (P:=P) (fK (af.list_nil (M:=M) (w:=w) e));have hsx:sx=[]:=List.eq_nil_of_length_eq_zero x1.len;have:=x3 w.drew fun _=>rfl
    rw [hsx] at this;exact this
   have hr:=H5 (P:=P) (w:=w) T o.type E i z hu hi hz (y2 w) (by rw [hsz];exact y3 w.drew fun _=>rfl) (base:=none) (sLen:=0) (sCap:=0)
    (by rw [hsz];exact hx0) (by omega) (by omega) hby
   have hcap:grownCap w (0+ys.length) 0 E<=maxLen:=grownCap_le_maxLen w _ _ _ (by unfold maxLen;omega);have hge:=grownCap_ge w (0+ys.length) 0 E;have hstd:aL M w M w.drew:=fun _ _ _ p q=>⟨p,q⟩
   have hz2:(Builtin.zeroCells z.cells (grownCap w (0+ys.length) 0 E - (0+ys.length))).toList.length=(grownCap w (0+ys.length) 0 E - (0+ys.length)) * e.size:=by
    rw [Array.length_toList,size_zeroCells,hzs]
   obtain ⟨M',hg'⟩:=Th hg.drew hb.drew hnb (o:=o) (E:=E) (e:=e) (xs:=ys) (y1.mono hstd) (cap:=grownCap w (0+ys.length) 0 E)
    (extra:=(Builtin.zeroCells z.cells (grownCap w (0+ys.length) 0 E - (0+ys.length))).toList) (by simpa using hge) hcap (by
     rw [List.length_append,hyl,hz2,<- Nat.add_mul]
     congr 1;omega)
   rw [<- ex] at hr;refine ⟨_,_,.inl (hrun _ _ hr),hb.drew.alloc hg.room _,M',?_⟩
   simpa using hg'
theorem sD (hg:Good M0 F M st a w) (hb:Fr F w0 w) (hnb:aN st o) {k:Nat} {T:TypeId} {e:Ty} (ht:bj P k T=some (.list e)) {x y:Operand} {cl:Call} (ho:o.op = .call cl)
 (h1:cl.callee = .builtin .append) (h2:cl.argTypes = #[T,T]) (h3:cl.args = #[x,y]) {xs ys:List e.den} (hx:af M w (.list e) [a.eval x] xs) (hox:ff M w e.size (a.eval x) xs.length)
 (hfree:∀ b,ag (a.eval x)=some b->¬ F b/\∀ j l,¬ ap st a w j l b) (hy:aw M w (.list e) (a.eval y) ys) (hf:bQ xs ys=true) :
 aU P F M0 w0 o a w (app (o.dst.toList.map (·,S.own e (xs++ys) true)) st):=by
 obtain ⟨E,m,hu,hE,hpos⟩:=mh ht;obtain ⟨i,hi,hsz,hby,z,hz,hzs⟩:=rN hE;have hf':xs.length+ys.length<1000000:=by simpa [bQ] using hf
 obtain ⟨sy,y1,y2,y3⟩:=uZ (P:=P) hy;have hyl:=y1.flat;have hrun:∀ v w',(Builtin.append_ #[T,T] o.type #[a.eval x,a.eval y]).run P w = .ok v w'->(execOp a.eval o).run P w = .ok (.value v) w':=fun v w' e=>by
  obtain ⟨callee,args,argTypes⟩:=cl;simp only at h1 h2 h3;subst h1;subst h2;subst h3;simp [execOp,ho,resolve,invoke,builtin,e]
 have more:∀ (p:Option Addr) (cap:Nat),a.eval x = .slice p xs.length cap->cap<xs.length+ys.length->aU P F M0 w0 o a w (app (o.dst.toList.map (·,S.own e (xs++ys) true)) st):=by
  intro p cap ex hlt;obtain ⟨sx,x1,x2,x3⟩:=uZ (P:=P) (fK hx);have hr:=H5 (P:=P) (w:=w) T o.type E i z hu hi hz (y2 w) (by rw [hsz];exact y3 w.drew fun _=>rfl) (base:=p) (sLen:=xs.length) (sCap:=cap)
   (by rw [hsz,<- ex];exact x3 w.drew fun _=>rfl) hlt hf' hby
  have hcap:grownCap w (xs.length+ys.length) cap E<=maxLen:=grownCap_le_maxLen w _ _ _ (by unfold maxLen;omega);have hge:=grownCap_ge w (xs.length+ys.length) cap E;have hall:=x1.app y1;have hstd:aL M w M w.drew:=fun _ _ _ p q=>⟨p,q⟩
  have hz2:(Builtin.zeroCells z.cells (grownCap w (xs.length+ys.length) cap E - (xs.length+ys.length))).toList.length=(grownCap w (xs.length+ys.length) cap E - (xs.length+ys.length)) * e.size:=by
   rw [Array.length_toList,size_zeroCells,hzs]
  obtain ⟨M',hg'⟩:=G0 hg.drew hb.drew hnb (o:=o) (E:=E) (e:=e) (xs:=xs++ys) (hall.mono hstd) (cap:=grownCap w (xs.length+ys.length) cap E)
   (extra:=(Builtin.zeroCells z.cells (grownCap w (xs.length+ys.length) cap E - (xs.length+ys.length))).toList) (by simpa using hge) hcap (by
    rw [List.length_append,hall.flat,hz2,List.length_append,<- Nat.add_mul]
    congr 1;omega)
  rw [List.length_append,List.flatten_append] at hg';rw [<- ex] at hr;exact ⟨_,_,.inl (hrun _ _ hr),hb.drew.alloc hg.room _,M',hg'⟩
 rcases hox with ⟨ex,h0⟩|⟨g,cap,cur,T',ex,e2,e3,e4,e5,e6⟩
 . have hxn:xs=[]:=List.eq_nil_of_length_eq_zero h0
   by_cases hy0:ys.length=0
   . have hyn:ys=[]:=List.eq_nil_of_length_eq_zero hy0;subst hxn;subst hyn;refine ⟨.slice none 0 0,w,.inl (hrun _ _ ?_),hb,M,hg.fin_own hnb (af.list_nil e) (.inl ⟨rfl,rfl⟩) (by simp [ag])⟩;have hfl:sy.flatten=[]:=List.eq_nil_of_length_eq_zero (by rw [hyl];simp);have hy2:=y2 w;have hy3:=y3 w fun _=>rfl
     rw [hfl] at hy3;simp only [List.length_nil] at hy2 hy3;rw [ex];simp [Builtin.append_,run_underlying hu,sizeOf,typeInfo,hi,hy2,hsz,hy3]
   . exact more none 0 (by rw [h0];exact ex) (by omega)
 . by_cases hroom:xs.length+ys.length<=cap
   rotate_left
   . exact more _ cap ex (by omega)
   obtain ⟨sx,p,cap',f1,f2,f3,f4⟩:=GA hx;rw [ex] at f1;simp only [Value.slice.injEq] at f1;obtain ⟨f1a,_,f1c⟩:=f1;subst f1c;have hmul:xs.length * e.size+ys.length * e.size<=cap * e.size:=by rw [<- Nat.add_mul];exact Nat.mul_le_mul_right _ hroom
   have hr:=run_append_room (P:=P) T o.type E i hu hi e2 (y2 w) (by rw [hsz];exact y3 w fun _=>rfl) y1.one hroom (by rw [hsz,hyl,e5];exact hmul);rw [<- ex,hsz,hyl] at hr;have hsame:=setRow_heap w g cur (cur.toList.take (xs.length * e.size)++sy.flatten++cur.toList.drop (xs.length * e.size+ys.length * e.size)).toArray T' (0,0) e2;generalize hrow:(cur.toList.take (xs.length * e.size)++sy.flatten++cur.toList.drop (xs.length * e.size+ys.length * e.size)).toArray=row at hr hsame;have hother:∀ b,b≠g->(w.setRow g row).heap[b]? = w.heap[b]? := fun b hbg=>setRow_other w g b row hbg
   have hown:ag (a.eval x)=some g:=by rw [ex];rfl
   obtain ⟨hge,hnone⟩:=hfree g hown;have htl:(cur.toList.take (xs.length * e.size)).length=xs.length * e.size:=by simp;omega
   have hrl:∀ j,j<xs.length * e.size->row[j]? = cur[j]? := fun j hj=>by
    rw [<- hrow];simp only [List.getElem?_toArray,List.append_assoc];rw [List.getElem?_append_left (by omega)];simp [List.getElem?_take,hj]
   have hrm:∀ j,j<ys.length * e.size->row[xs.length * e.size+j]? = sy.flatten[j]? := fun j hj=>by
    rw [<- hrow];simp only [List.getElem?_toArray,List.append_assoc];rw [List.getElem?_append_right (by omega),htl,List.getElem?_append_left (by omega)]
    congr 1;omega
   have hst:aL M w (fun b o=>M b o/\¬ (b=g/\o<(xs.length+ys.length) * e.size)) (w.setRow g row):=by
    intro b o v h1 h2;refine ⟨?_,fun h=>h2 h.1⟩
    by_cases hbg:b=g
    . subst hbg;rw [cell_of_row w b o cur T' (0,0) e2] at h1;rw [cell_of_row _ b o row T' (0,0) hsame];have:o<xs.length * e.size:=by
       rcases Nat.lt_or_ge o (xs.length * e.size) with h'|h'
       . exact h'
       . exact absurd (e6 o h') h2
      rw [hrl o this];exact h1
    . rw [World.cell?_of_block (w:=w) (a:=⟨b,o,none⟩) (hother b hbg)];exact h1
   have hg1:Good M0 F (fun b o=>M b o/\¬ (b=g/\o<(xs.length+ys.length) * e.size)) st a (w.setRow g row):=by
    refine hg.world hst (by simp) (fun b o hm=>⟨hg.up b o hm,fun h=>?_⟩) (fun b o h=>by have:=hg.lt b o h.1;simpa using this) (fun b o hlt h=>hg.down b o hlt h.1) (bF.but e2 (by simp) fun k _ hk=>hother k hk) fun i k b ho=>?_
    . exact hge (h.1 ▸ hg.base b o hm)
    . have hne:b≠g:=fun h=>hnone i k (h ▸ ho)
      exact ⟨hother b hne,fun o h=>⟨h,fun h'=>hne h'.1⟩⟩
   refine ⟨_,_,.inl (hrun _ _ hr),hb.but hge rfl rfl rfl (by simp) hother,_,hg1.fin_own hnb ?_ (.inr ⟨g,cap,row,T',by rw [List.length_append],hsame,by rw [List.length_append];exact hroom,e4,?_,?_⟩) ?_⟩
   . have:=(f3.mono hst).app (y1.mono hst);have hxy:(xs++ys).length=xs.length+ys.length:=List.length_append;have hgoal:=H_ (b:=g) (o:=0) (cap:=cap) this (by rw [hxy];exact hroom);rw [hxy] at hgoal;refine hgoal fun j u hj=>?_
     rw [Nat.zero_add,cell_of_row _ g j row T' (0,0) hsame];have hxl:=f3.flat;have hlt:j<(xs.length+ys.length) * e.size:=by
      have:=(List.getElem?_eq_some_iff.1 hj).1;rw [List.flatten_append,List.length_append,hxl,hyl,<- Nat.add_mul] at this;exact this
     refine ⟨?_,fun h=>h.2 ⟨rfl,hlt⟩⟩;rw [List.flatten_append,List.getElem?_append] at hj;rw [hxl] at hj;split at hj
     . rename_i hjx;rw [hrl j hjx];have hpx:0<xs.length:=by
        rcases Nat.eq_zero_or_pos xs.length with h'|h'
        . rw [h',Nat.zero_mul] at hjx;omega
        . exact h'
       obtain ⟨b',o',hp,hcc⟩:=f4 hpx;rw [<- f1a] at hp;simp only [Option.some.injEq,Addr.mk.injEq] at hp;obtain ⟨rfl,rfl,_⟩:=hp;have:=(hcc j u hj).1;rw [Nat.zero_add,cell_of_row w g j cur T' (0,0) e2] at this;exact this
     . rename_i hjx;have:=hrm (j - xs.length * e.size) (by rw [Nat.add_mul] at hlt;omega);rw [show xs.length * e.size+(j - xs.length * e.size)=j from by omega] at this;rw [this];exact hj
   . rw [<- hrow];simp only [List.size_toArray,List.length_append,htl,hyl,List.length_drop,Array.length_toList,e5];omega
   . intro o ho;rw [List.length_append] at ho;refine ⟨e6 o ?_,fun h=>by omega⟩;have:xs.length * e.size<=(xs.length+ys.length) * e.size:=Nat.mul_le_mul_right _ (by omega);omega
   . intro b hbb;simp [ag] at hbb;subst hbb;refine ⟨hge,fun j l ho=>hnone j l (cM (fun i b ho'=>hother b fun h=>hnone i none (h ▸ ho')) ho)⟩
end
open Go.RowKit (Below)
section
variable {P : Program} {Φ : Nat → List Spec} {F : Nat → Prop} {M0 : Base} {w0 : World} {M : ai} {st : St} {a : Act} {w : World} {o : Oper}
theorem lz {i:Nat} {s:S} (hs:au s=false) (hnb:aN st o):aN (st.set i s) o:=by
 intro d hd;rcases Nat.lt_or_ge i st.length with hi|hi
 . rw [bu st i d s hi];split
   . exact hs
   . exact hnb d hd
 . rw [List.set_eq_of_length_le hi];exact hnb d hd
theorem Tl {i:Nat} {cs cs':List C} (hg:get st i = .box cs) (hnb:aN st o):aN (st.set i (.box cs')) o:=by
 intro d hd;have:=hnb d hd;rcases Nat.lt_or_ge i st.length with hi|hi
 . rw [bu st i d _ hi];split
   . rename_i e;subst e;rw [hg] at this;cases this
   . exact this
 . rw [List.set_eq_of_length_le hi];exact this
theorem To (hg:Good M0 F M st a w) (hb:Fr F w0 w) (hnb:aN st o) {T:TypeId} {x y:Operand} {cl:Call} (ho:o.op = .call cl)
 (h1:cl.callee = .builtin .append) (h2:cl.argTypes = #[T,T]) (h3:cl.args = #[x,y]) {rd0:Nat}
 {c:Bool} {rd:Nat} {wr:List (Nat×S)} {mk:Bool} (h:lG P mk o.dst.toList st rd0 T x y = .eff c rd wr) (hc:c=true):aU P F M0 w0 o a w (app wr st):=by
 unfold lG at h;split at h;rotate_left
 . cases h
 rename_i e ht;split at h;rotate_left
 . cases h
 rename_i ys hys;have hy:=cO (bx hg y) hys;have hx:=bx hg x;unfold kb at h;split at h
 . rename_i ex;rw [ex] at hx;have hx:a.eval x = .slice none 0 0:=hx;cases mk with
   | true =>
    simp only [aM,Pre.eff.injEq] at h;obtain ⟨hf,_,rfl⟩:=h;exact LB (P:=P) hg hb hnb ht ho h1 h2 h3 hx hy (by rw [hf];exact hc)
   | false =>
   simp only [aM,Pre.eff.injEq] at h;obtain ⟨hf,_,rfl⟩:=h;have:=sD (P:=P) hg hb hnb ht ho h1 h2 h3 (xs:=[]) (by rw [hx];exact af.list_nil e) (by rw [hx];exact .inl ⟨rfl,rfl⟩) (by rw [hx];simp [ag]) hy (by rw [hf];exact hc);exact this
 . rename_i u xs hh ex;split at h;rotate_left
   . cases h
   rename_i e';subst e';cases x with
   | tmp hm =>
    dsimp only at h;simp only [Pre.eff.injEq] at h;obtain ⟨hf,_,rfl⟩:=h;have hgx:get st hm = .own u xs hh:=ex;rw [ex] at hx;obtain ⟨hd1,hd2⟩:=hg.demote hgx hx.1;exact sD (P:=P) hd1 hb (lz rfl hnb) ht ho h1 h2 h3 hx.1 hx.2 (fun b hbb=>⟨hg.new hm none b ⟨by rw [hgx];rfl,hbb⟩,hd2 b hbb⟩) hy (by rw [hf];exact hc)
   | _=>cases h
 . rename_i hm u xs ex;split at h;rotate_left
   . cases h
   rename_i e';subst e';split at h;rotate_left
   . cases h
   rename_i u' xs' hgx;split at h;rotate_left
   . cases h
   rename_i hu';subst hu';simp only [Pre.eff.injEq] at h;obtain ⟨hf,_,rfl⟩:=h;rw [ex] at hx;have heq:tm a hm=a.eval x:=hx.2 _ _ hgx;have hsl:=hg.slot hm;rw [hgx,heq] at hsl;obtain ⟨hd1,hd2⟩:=hg.demote hgx (by rw [heq];exact hx.1);have hlen:xs'.length=xs.length:=by
    obtain ⟨p1,c1,q1,_⟩:=hsl.1;obtain ⟨p2,c2,q2,_⟩:=hx.1;rw [q1] at q2;simp only [List.cons.injEq,Value.slice.injEq,and_true] at q2;exact q2.2.1
   exact sD (P:=P) hd1 hb (lz rfl hnb) ht ho h1 h2 h3 hx.1 (by rw [<- hlen];exact hsl.2) (fun b hbb=>⟨hg.new hm none b ⟨by rw [hgx];rfl,by rw [heq];exact hbb⟩,hd2 b (by rw [heq];exact hbb)⟩) hy (by rw [hf];exact hc)
 . rename_i hm k u xs ex;split at h;rotate_left
   . cases h
   rename_i e';subst e';split at h;rotate_left
   . cases h
   rename_i cs hgx;split at h;rotate_left
   . cases h
   rename_i u' xs' hcs;split at h;rotate_left
   . cases h
   rename_i hu';subst hu';simp only [Pre.eff.injEq] at h;obtain ⟨hf,_,rfl⟩:=h;rw [ex] at hx;have hsl:=hg.slot hm;rw [hgx] at hsl;obtain ⟨b,T',cells,e1,e2,e3,e4,e5⟩:=hsl;have hob:ag (tm a hm)=some b:=by rw [e1];rfl
   have hcell:=hx.2 cs _ _ b hgx hcs hob;have hcv:cells[k]? = some (a.eval x):=by rw [<- cell_of_row w b k cells T' (0,0) e2];exact hcell
   have hok:=e5 k _ _ hcs hcv;obtain ⟨hd1,hd2⟩:=hg.demoteC hgx hcs (t:=u') (xs:=xs) (fun c v hc1 hc2=>by
    rw [hob] at hc1;cases hc1;rw [hcell] at hc2;cases hc2;exact hx.1)
   have hlen:xs'.length=xs.length:=by
    obtain ⟨p1,c1,q1,_⟩:=hok.1;obtain ⟨p2,c2,q2,_⟩:=hx.1;rw [q1] at q2;simp only [List.cons.injEq,Value.slice.injEq,and_true] at q2;exact q2.2.1
   exact sD (P:=P) hd1 hb (Tl hgx hnb) ht ho h1 h2 h3 hx.1 (by rw [<- hlen];exact hok.2)
    (fun g hbb=>⟨hg.new hm (some k) g ⟨cs,_,b,_,hgx,hcs,rfl,hob,hcell,hbb⟩,hd2 b _ g hob hcell hbb⟩) hy (by rw [hf];exact hc)
 . cases h
theorem Tq (hg:Good M0 F M st a w) (hb:Fr F w0 w) (hnb:aN st o) {x:Operand} (ho:o.op = .assign x)
 {c:Bool} {rd:Nat} {wr:List (Nat×S)} (h:az P Φ o st = .eff c rd wr):aU P F M0 w0 o a w (app wr st):=by
 simp only [az,ho] at h;have hr:(execOp a.eval o).run P w = .ok (.value (a.eval x)) w:=by simp [execOp,ho]
 have hx:=bx hg x;split at h
 . rename_i t xs hh ex;cases x with
   | tmp hm =>
    dsimp only at h;simp only [Pre.eff.injEq] at h;obtain ⟨_,_,rfl⟩:=h;have hgx:get st hm = .own t xs hh:=ex;rw [ex] at hx;obtain ⟨hd1,hd2⟩:=hg.demote hgx hx.1;exact .same hb hr (hd1.fin_own (lz rfl hnb) hx.1 hx.2 fun b hbb=>⟨hg.new hm none b ⟨by rw [hgx];rfl,hbb⟩,hd2 b hbb⟩)
   | _=>cases h
 . rename_i hm t xs ex;rw [ex] at hx;split at h
   . rename_i u' xs' hgx;split at h;rotate_left
     . cases h
     rename_i hu';subst hu';simp only [Pre.eff.injEq] at h;obtain ⟨_,_,rfl⟩:=h;have heq:tm a hm=a.eval x:=hx.2 _ _ hgx;have hsl:=hg.slot hm;rw [hgx,heq] at hsl;obtain ⟨hd1,hd2⟩:=hg.demote hgx (by rw [heq];exact hx.1);have hlen:xs'.length=xs.length:=by
      obtain ⟨p1,c1,q1,_⟩:=hsl.1;obtain ⟨p2,c2,q2,_⟩:=hx.1;rw [q1] at q2;simp only [List.cons.injEq,Value.slice.injEq,and_true] at q2;exact q2.2.1
     exact .same hb hr (hd1.fin_own (lz rfl hnb) hx.1 (by rw [<- hlen];exact hsl.2) fun b hbb=>⟨hg.new hm none b ⟨by rw [hgx];rfl,by rw [heq];exact hbb⟩,hd2 b (by rw [heq];exact hbb)⟩)
   . exact aX (c:=true) (rd:=om x ||| bq hm) hg hb hnb h rfl hr (fK hx.1)
 . rename_i hm k t xs ex;rw [ex] at hx;exact aX (c:=true) (rd:=om x) hg hb hnb h rfl hr (fK hx.1)
 . rename_i ex;rw [ex] at hx;have hx':a.eval x = .slice none 0 0:=hx;split at h
   . rename_i e ht;simp only [Pre.eff.injEq] at h;obtain ⟨_,_,rfl⟩:=h;exact .same hb hr (hg.fin_own hnb (by rw [hx'];exact af.list_nil e) (.inl ⟨hx',rfl⟩) (by rw [hx'];simp [ag]))
   . exact aX (c:=true) (rd:=om x) hg hb hnb h rfl hr hx
 . cases h
 . rename_i t xs hh ex;cases x with
   | tmp hm =>
    dsimp only at h;simp only [Pre.eff.injEq] at h;obtain ⟨_,_,rfl⟩:=h;have hgx:get st hm = .arr t xs hh:=ex;rw [ex] at hx;obtain ⟨hd1,hd2⟩:=hg.forget hgx;exact .same hb hr (hd1.fin_arr (lz rfl hnb) hx hd2)
   | _=>cases h
 . rename_i hm t ex;rw [ex] at hx;split at h;rotate_left
   . cases h
   rename_i u xs hgx;split at h;rotate_left
   . cases h
   rename_i hut;subst hut;simp only [Pre.eff.injEq] at h;obtain ⟨_,_,rfl⟩:=h;have heq:tm a hm=a.eval x:=hx xs hgx;have hsl:=hg.slot hm;rw [hgx,heq] at hsl;obtain ⟨hd1,hd2⟩:=hg.forget hgx;rw [heq] at hd2;cases hob:ag (a.eval x) with
   | none =>
    have hnil:a.eval x = .slice none 0 0/\xs=[]:=by
     rcases hsl with h'|⟨g,cap,cells,T,e1,_⟩
     . exact h'
     . rw [e1] at hob;simp [ag] at hob
    obtain ⟨e1,e2⟩:=hnil;subst e2;exact .same hb hr (hd1.fin_own (lz rfl hnb) (by rw [e1];exact af.list_nil u) (.inl ⟨e1,rfl⟩) (by rw [e1];simp [ag]))
   | some g =>
    obtain ⟨hge,hno⟩:=hd2 g hob;have hfz:=hd1.freeze (n:=xs.length * u.size) hge hno;obtain ⟨k1,k2⟩:=xN hsl (M':=fun b o=>M b o/\¬ (b=g/\o<xs.length * u.size)) (fun g' hg' b o=>by rw [hob] at hg';cases hg';exact Iff.rfl) (fun b o v h1 h2=>⟨h1,fun h3=>h2 h3.1⟩);exact .same hb hr (hfz.fin_own (lz rfl hnb) k1 k2 fun b hbb=>by rw [hob] at hbb;cases hbb;exact ⟨hge,hno⟩)
 . cases h
 . cases h
 . cases h
 . rename_i h1 h2 h3 h4 h5 h6 h7 h8 h9 h10;refine aX (c:=true) (rd:=om x) hg hb hnb (s:=ak st x) h ?_ hr hx;cases e:ak st x with
   | own t xs hh=>exact absurd e (h1 t xs hh)
   | box cs=>exact absurd e (h5 cs)
   | arr t xs hh=>exact absurd e (h6 t xs hh)
   | sit xs pos=>exact absurd e (h10 xs pos)
   | _=>rfl
theorem Good.setbox (hg:Good M0 F M st a w) {i b:Nat} {cs cs':List C} {cells row:Array Value} {E:TypeId} (hi:get st i = .box cs) (ht:tm a i = .pointer (some ⟨b,0,none⟩)) (hh:w.heap[b]? = some (.cells cells E (0,0)))
 (hrow:row.size=cs'.length) (hok:∀ (k:Nat) (c:C) (u:Value),cs'[k]? = some c->row[k]? = some u->fC M w u c)
 (hfr:∀ (k:Nat) u ys,cs'[k]? = some (C.own u ys false)->cs[k]? = some (C.own u ys false)/\row[k]? = cells[k]?)
 (hfrA:∀ (k:Nat) u ys,cs'[k]? = some (C.arr u ys false)->∃ ys0,cs[k]? = some (C.arr u ys0 false)/\row[k]? = cells[k]?)
 (hnew:∀ (k:Nat) c0 v g,cs'[k]? = some c0->b_ c0=true->row[k]? = some v->ag v=some g ->
  ((∃ c1,cs[k]? = some c1/\b_ c1=true)/\cells[k]? = some v)\/(¬ F g/\∀ j l,¬ ap st a w j l g))
 (huniq:∀ (k k':Nat) c0 v g c1 v',cs'[k]? = some c0->b_ c0=true->row[k]? = some v->ag v=some g->(∀ j l,¬ ap st a w j l g) ->
  cs'[k']? = some c1->b_ c1=true->row[k']? = some v'->ag v'=some g->k=k') :
 Good M0 F M (st.set i (.box cs')) a (w.setRow b row):=by
 have hil:i<st.length:=by
  rcases Nat.lt_or_ge i st.length with h'|h'
  . exact h'
  . rw [b7 h'] at hi;cases hi
 have hset:∀ j,get (st.set i (.box cs')) j=if j=i then .box cs' else get st j:=fun j=>bu st i j _ hil
 have hsame:=setRow_heap w b cells row E (0,0) hh;have hother:∀ g,g≠b->(w.setRow b row).heap[g]? = w.heap[g]? := fun g hgb=>setRow_other w b g row hgb
 have hbo:ap st a w i none b:=⟨by rw [hi];rfl,by rw [ht];rfl⟩
 have hM:∀ o,M b o:=by
  have:=hg.slot i;rw [hi] at this;obtain ⟨b',T,cells',e1,_,_,e4,_⟩:=this;rw [ht] at e1;cases e1;exact e4
 have hst:aL M w M (w.setRow b row):=fun g o v h1 h2=>by
  have hgb:g≠b:=fun h=>h2 (h ▸ hM o)
  exact ⟨by rw [World.cell?_of_block (w:=w) (a:=⟨g,o,none⟩) (hother g hgb)];exact h1,h2⟩
 have howns:∀ j l g,ap (st.set i (.box cs')) a (w.setRow b row) j l g->ap st a w j l g\/(j=i/\∃ k c0 v,l=some k/\cs'[k]? = some c0/\b_ c0=true/\row[k]? = some v/\ag v=some g/\¬ F g/\∀ j l,¬ ap st a w j l g):=by
  intro j l g ho;cases l with
  | none =>
   left
   by_cases hj:j=i
   . subst hj;exact ⟨by rw [hi];rfl,ho.2⟩
   . simpa only [ap,hset,if_neg hj] using ho
  | some k =>
   obtain ⟨ds,c0,c,v,e1,e2,e0,e3,e4,e5⟩:=ho
   by_cases hj:j=i
   . subst hj;rw [hset,if_pos rfl] at e1;cases e1;rw [ht] at e3;simp [ag] at e3;subst e3;rw [cell_of_row _ b k row E (0,0) hsame] at e4;rcases hnew k c0 v g e2 e0 e4 e5 with ⟨⟨c1,f1,f0⟩,f2⟩|⟨f1,f2⟩
     . left;exact ⟨cs,c1,b,v,hi,f1,f0,by rw [ht];rfl,by rw [cell_of_row w b k cells E (0,0) hh];exact f2,e5⟩
     . right;exact ⟨rfl,k,c0,v,rfl,e2,e0,e4,e5,f1,f2⟩
   . left;rw [hset,if_neg hj] at e1;have hcb:c≠b:=fun h=>by
      subst h;exact hj (hg.one j none i none c ⟨by rw [e1];rfl,e3⟩ hbo).1
     rw [World.cell?_of_block (w:=w) (a:=⟨c,k,none⟩) (hother c hcb)] at e4;exact ⟨ds,c0,c,v,e1,e2,e0,e3,e4,e5⟩
 have hturn:Turn st a w (st.set i (.box cs')) a (w.setRow b row):=by
  refine ⟨fun h u ys e=>?_,fun h ds k u ys e1 e2=>?_,fun h u ys e=>?_,fun h ds k u ys e1 e2=>?_,fun h ds e=>?_⟩
  . rw [hset] at e;split at e
    . cases e
    . exact ⟨e,rfl⟩
  . by_cases hj:h=i
    . subst hj;rw [hset,if_pos rfl] at e1;cases e1;obtain ⟨f1,f2⟩:=hfr k u ys e2;refine ⟨cs,hi,f1,rfl,fun g hgb=>?_⟩;rw [ht] at hgb;simp [ag] at hgb;subst hgb;rw [cell_of_row _ b k row E (0,0) hsame,cell_of_row w b k cells E (0,0) hh,f2]
    . rw [hset,if_neg hj] at e1;refine ⟨ds,e1,e2,rfl,fun g hgb=>?_⟩;have hcb:g≠b:=fun h'=>by
       subst h';exact hj (hg.one h none i none g ⟨by rw [e1];rfl,hgb⟩ hbo).1
      exact World.cell?_of_block (w:=w) (a:=⟨g,k,none⟩) (hother g hcb)
  . rw [hset] at e;split at e
    . cases e
    . exact ⟨ys,e,rfl⟩
  . by_cases hj:h=i
    . subst hj;rw [hset,if_pos rfl] at e1;cases e1;obtain ⟨ys0,f1,f2⟩:=hfrA k u ys e2;refine ⟨cs,ys0,hi,f1,rfl,fun g hgb=>?_⟩;rw [ht] at hgb;simp [ag] at hgb;subst hgb;rw [cell_of_row _ b k row E (0,0) hsame,cell_of_row w b k cells E (0,0) hh,f2]
    . rw [hset,if_neg hj] at e1;refine ⟨ds,ys,e1,e2,rfl,fun g hgb=>?_⟩;have hcb:g≠b:=fun h'=>by
       subst h';exact hj (hg.one h none i none g ⟨by rw [e1];rfl,hgb⟩ hbo).1
      exact World.cell?_of_block (w:=w) (a:=⟨g,k,none⟩) (hother g hcb)
  . rw [hset];split
    . exact ⟨⟨_,rfl⟩,rfl⟩
    . exact ⟨⟨ds,e⟩,rfl⟩
 refine ⟨hg.defers.keep (bF.but hh (by simp) fun k _ hk=>hother k hk),by simpa using hg.size,by simpa using hg.room,hg.base,hg.up,fun g o hm=>by simpa using hg.lt g o hm,hg.down,fun j=>?_,fun j l j' l' g h1 h2=>?_,fun j l g h1=>?_,hg.keep.trans hst,hg.pin_turn hturn,hg.dm⟩
 . by_cases hj:j=i
   . subst hj;rw [hset,if_pos rfl];refine ⟨b,E,row,ht,hsame,hrow,hM,fun k c u hc hu=>(hok k c u hc hu).keep hst fun g ec eg=>?_⟩;have hgb:g≠b:=by
      rcases hnew k c u g hc ec hu eg with ⟨⟨c1,f1,f0⟩,f2⟩|⟨_,f2⟩
      . intro h';subst h';have:=hg.one j (some k) j none g ⟨cs,c1,g,u,hi,f1,f0,by rw [ht];rfl,by rw [cell_of_row w g k cells E (0,0) hh];exact f2,eg⟩ hbo;exact absurd this.2 (by simp)
      . intro h';subst h';exact f2 j none hbo
     exact ⟨hother g hgb,fun _ h=>h⟩
   . rw [hset,if_neg hj];refine aI.keep hst hturn rfl rfl (hg.slot j) fun k g ho=>?_
     have hgb:g≠b:=fun h'=>by subst h';exact hj (hg.one j k i none g ho hbo).1
     exact ⟨hother g hgb,fun _ h=>h⟩
 . rcases howns j l g h1 with o1|⟨rfl,k,c0,v,rfl,p1,p0,p2,p3,p4,p5⟩
   . rcases howns j' l' g h2 with o2|⟨rfl,k,c0,v,rfl,p1,p0,p2,p3,p4,p5⟩
     . exact hg.one j l j' l' g o1 o2
     . exact absurd o1 (p5 _ _)
   . rcases howns j' l' g h2 with o2|⟨rfl,k',c1,v',rfl,q1,q0,q2,q3,q4,q5⟩
     . exact absurd o2 (p5 _ _)
     . exact ⟨rfl,by rw [huniq k k' c0 v g c1 v' p1 p0 p2 p3 p5 q1 q0 q2 q3]⟩
 . rcases howns j l g h1 with o1|⟨_,_,_,_,_,_,_,_,_,p4,_⟩
   . exact hg.new j l g o1
   . exact p4
end
end Go.V
end
