/- A part of the proof of TopNinesSaid: no condition beyond what each theorem says. -/
import Derived.Test.YtkohflnifdpahaaN02
import Derived.Laws.StructEq
import Derived.Laws.MakeOwn
import Derived.Lib.OthersKept
set_option linter.all false
namespace Go.V
open Go.RowKit (Below)
section
variable {P : Program} {Φ : Nat → List Spec} {F : Nat → Prop} {M0 : Base} {w0 : World} {M : Mut} {st : St} {a : Act} {w : World} {o : Oper}
theorem descTy_int {f:TypeId->Option Ty} {d:TypeDesc} {k:IntKind} (h:descTy f d=some (.int k)):∃ k',d = .int k':=by
  cases d with
  | int k'=>exact ⟨k',rfl⟩
  | struct fs=>have:=tysOf_agg _ _ _ h;simp [Ty.agg] at this
  | slice E =>
    simp only [descTy] at h
    cases hE:f E with
    | none=>rw [hE] at h;cases h
    | some u=>rw [hE] at h;dsimp only at h;split at h<;>cases h
  | array len E =>
    simp only [descTy] at h
    cases hE:f E with
    | none=>rw [hE] at h;cases h
    | some u =>
      rw [hE] at h
      dsimp only at h
      split at h
      . cases h
      . have:=nprod_agg u len;cases h':nprod u len<;>rw [h'] at h this<;>cases h
        simp [Ty.agg] at this
  | _=>simp [descTy] at h
theorem descTy_bool {f:TypeId->Option Ty} {d:TypeDesc} (h:descTy f d=some .bool):d = .bool:=by
  cases d with
  | bool=>rfl
  | struct fs=>have:=tysOf_agg _ _ _ h;simp [Ty.agg] at this
  | slice E =>
    simp only [descTy] at h
    cases hE:f E with
    | none=>rw [hE] at h;cases h
    | some u=>rw [hE] at h;dsimp only at h;split at h<;>cases h
  | array len E =>
    simp only [descTy] at h
    cases hE:f E with
    | none=>rw [hE] at h;cases h
    | some u =>
      rw [hE] at h
      dsimp only at h
      split at h
      . cases h
      . have:=nprod_agg u len;cases h':nprod u len<;>rw [h'] at h this<;>cases h
        simp [Ty.agg] at this
  | _=>simp [descTy] at h
theorem descTy_str {f:TypeId->Option Ty} {d:TypeDesc} (h:descTy f d=some .str):d = .string:=by
  cases d with
  | string=>rfl
  | struct fs=>have:=tysOf_agg _ _ _ h;simp [Ty.agg] at this
  | slice E =>
    simp only [descTy] at h
    cases hE:f E with
    | none=>rw [hE] at h;cases h
    | some u=>rw [hE] at h;dsimp only at h;split at h<;>cases h
  | array len E =>
    simp only [descTy] at h
    cases hE:f E with
    | none=>rw [hE] at h;cases h
    | some u =>
      rw [hE] at h
      dsimp only at h
      split at h
      . cases h
      . have:=nprod_agg u len;cases h':nprod u len<;>rw [h'] at h this<;>cases h
        simp [Ty.agg] at this
  | _=>simp [descTy] at h
theorem eq1_ok {m:Nat} {T:TypeId} {t:Ty} {x y:t.den} {b:Bool} {cx cy:List Value} (ht:tyOf P m T=some t) (h:eq1 t x y=some b) (hx:RepC M w t cx x) (hy:RepC M w t cy y) (d:Nat) (w':World) :
    (Op.equalIn (d+1) T (toVal t cx) (toVal t cy)).run P w' = .ok b w':=by
  obtain ⟨m',_,de,hd,hdt⟩:=tyOf_info ht
  cases t with
  | int k =>
    have e1:cx=[.int k x]:=hx
    have e2:cy=[.int k y]:=hy
    subst e1;subst e2
    simp only [eq1,Option.some.injEq] at h
    subst h
    obtain ⟨k',rfl⟩:=descTy_int hdt
    have hk:=hd
    show (Op.equalIn (d+1) T (.int k x) (.int k y)).run P w'=_
    rw [run_equalIn_int w' d T k k' x y hk];rfl
  | bool =>
    have e1:cx=[.bool x]:=hx
    have e2:cy=[.bool y]:=hy
    subst e1;subst e2
    simp only [eq1,Option.some.injEq] at h
    subst h
    obtain rfl:=descTy_bool hdt
    have hk:=hd
    show (Op.equalIn (d+1) T (.bool x) (.bool y)).run P w'=_
    rw [run_equalIn_bool' w' d T x y hk];rfl
  | str =>
    have e1:cx=[.string ⟨⟨x⟩⟩]:=hx
    have e2:cy=[.string ⟨⟨y⟩⟩]:=hy
    subst e1;subst e2
    simp only [eq1,Option.some.injEq] at h
    subst h
    obtain rfl:=descTy_str hdt
    have hk:=hd
    show (Op.equalIn (d+1) T (.string ⟨⟨x⟩⟩) (.string ⟨⟨y⟩⟩)).run P w'=_
    rw [run_equalIn_string w' d T _ _ hk,ByteArray.toList_eq,ByteArray.toList_eq];rfl
  | _=>simp [eq1] at h
theorem eqFields_ok {m:Nat} (d:Nat) (xs ys:Array Value):∀ (fs:List Field) (off:Nat) (t:Ty) (x y:t.den) (b:Bool) (cx cy:List Value),tysOf (tyOf P m) off fs=some t->eqTy t x y=some b ->
    RepC M w t cx x->RepC M w t cy y->(∀ k,k<cx.length->xs.toList[off+k]? = cx[k]?)->(∀ k,k<cy.length->ys.toList[off+k]? = cy[k]?)->(Op.eqFields (d+1) xs ys fs).run P w = .ok b w
  | [],off,t,x,y,b,cx,cy,ht,h,_,_,_,_=>by
    simp only [tysOf,Option.some.injEq] at ht
    subst ht
    simp only [eqTy,Option.some.injEq] at h
    subst h
    simp [Op.eqFields]
  | f :: fs,off,t,x,y,b,cx,cy,ht,h,hx,hy,kx,ky=>by
    unfold tysOf at ht
    cases hu:tyOf P m f.type with
    | none=>rw [hu] at ht;cases ht
    | some u =>
      rw [hu] at ht
      dsimp only at ht
      split at ht
      rotate_left
      . cases ht
      rename_i hf
      simp only [Bool.and_eq_true,beq_iff_eq,bne_iff_ne,ne_eq] at hf
      cases hr:tysOf (tyOf P m) (off+u.size) fs with
      | none=>rw [hr] at ht;cases ht
      | some r =>
        rw [hr] at ht
        cases ht
        simp only [eqTy] at h
        cases h1:eq1 u x.1 y.1 with
        | none=>rw [h1] at h;cases h
        | some p =>
          rw [h1] at h
          dsimp only at h
          cases h2:eqTy r x.2 y.2 with
          | none=>rw [h2] at h;cases h
          | some q =>
            rw [h2] at h
            cases h
            obtain ⟨x1,x2,rfl,gx1,gx2⟩:=hx
            obtain ⟨y1,y2,rfl,gy1,gy2⟩:=hy
            have lx:=RepC.length _ _ _ gx1
            have ly:=RepC.length _ _ _ gy1
            have px:(xs.toList.drop off).take u.size=x1:=by
              apply List.ext_getElem?
              intro k
              rw [List.getElem?_take]
              split
              . rename_i hk
                rw [List.getElem?_drop,kx k (by simp;omega),List.getElem?_append_left (by omega)]
              . rw [List.getElem?_eq_none (by omega)]
            have py:(ys.toList.drop off).take u.size=y1:=by
              apply List.ext_getElem?
              intro k
              rw [List.getElem?_take]
              split
              . rename_i hk
                rw [List.getElem?_drop,ky k (by simp;omega),List.getElem?_append_left (by omega)]
              . rw [List.getElem?_eq_none (by omega)]
            have rx:=run_part hu xs off (by rw [px];exact lx) w
            have ry:=run_part hu ys off (by rw [py];exact ly) w
            rw [px] at rx
            rw [py] at ry
            have req:=eq1_ok hu h1 gx1 gy1 d w
            have ih:=eqFields_ok d xs ys fs (off+u.size) r x.2 y.2 q x2 y2 hr h2 gx2 gy2
              (fun k hk=>by have:=kx (u.size+k) (by simp;omega);rw [List.getElem?_append_right (by omega)] at this;rw [show off+u.size+k=off+(u.size+k) by omega,this];congr 1;omega)
              (fun k hk=>by have:=ky (u.size+k) (by simp;omega);rw [List.getElem?_append_right (by omega)] at this;rw [show off+u.size+k=off+(u.size+k) by omega,this];congr 1;omega)
            have hoff:f.offset=off:=hf.1
            simp only [Op.eqFields,ne_eq,hf.2,not_false_eq_true,if_true,Sem.run_bind,hoff,rx,Result.andThen_ok,ry,req,Sem.run_ite]
            cases p
            . simp
            . simpa using ih
theorem op_binAgg {op:BinOp} {T T':TypeId} {x y:Operand} (hg:Good M0 F M st a w) (hb:Fr F w0 w) (hnb:NoBox st o) (ho:o.op = .binOp op T x y T')
    {p q:Ty} {u v:(Ty.prod p q).den} (hx:RepV M w (.prod p q) (a.eval x) u) (hy:RepV M w (.prod p q) (a.eval y) v) {c:Bool} {rd rd':Nat} {wr:List (Nat×S)}
    (h:preBinAgg P o.dst.toList rd' op T (.prod p q) u v = .eff c rd wr):ORun P F M0 w0 o a w (app wr st):=by
  unfold preBinAgg at h
  split at h
  rotate_left
  . cases h
  rename_i fs hu
  split at h
  rotate_left
  . cases h
  rename_i hcond
  obtain ⟨hty,hst,heg⟩:=hcond
  split at h
  rotate_left
  . cases h
  rename_i b hbq
  obtain ⟨cx,ex,gx⟩:=hx
  obtain ⟨cy,ey,gy⟩:=hy
  have ex':a.eval x = .agg cx.toArray:=by rw [ex];rfl
  have ey':a.eval y = .agg cy.toArray:=by rw [ey];rfl
  have hfs:P.fieldsOf T=fs:=by unfold Program.fieldsOf;rw [hu]
  obtain ⟨m,hts⟩:=ty_struct hty hu
  have hrun:(Op.equalIn 10000 T (.agg cx.toArray) (.agg cy.toArray)).run P w = .ok b w:=by
    rw [run_equalIn_agg w 9999 T _ _ (by rw [hfs];exact hu) hst,hfs]
    exact eqFields_ok 9998 _ _ _ 0 _ u v b cx cy hts hbq gx gy (fun k _=>by simp) (fun k _=>by simp)
  have hguard:=run_eqGuard_agg (P:=P) w op T x y cx.toArray cy.toArray heg
  split at h
  . refine orun_put hg hb hnb h rfl (v:=.bool b) ?_ (mk_bool _)
    simp only [execOp,ho,ex',ey',Sem.run_bind,hguard,Result.andThen_ok,run_eql_struct,hrun,Sem.run_pure]
  . refine orun_put hg hb hnb h rfl (v:=.bool (!b)) ?_ (mk_bool _)
    simp only [execOp,ho,ex',ey',Sem.run_bind,hguard,Result.andThen_ok,run_neq_struct,hrun,Sem.run_pure]
  . cases h
theorem op_range {T:TypeId} {x:Operand} (hg:Good M0 F M st a w) (hb:Fr F w0 w) (hnb:NoBox st o) (ho:o.op = .range T x)
    {c:Bool} {rd:Nat} {wr:List (Nat×S)} (h:vpre P Φ o st = .eff c rd wr):ORun P F M0 w0 o a w (app wr st):=by
  simp only [vpre,ho] at h
  have hx:=opnd_ok hg x
  unfold preRange at h
  split at h
  rotate_left
  . cases h
  rename_i hu
  split at h
  rotate_left
  . cases h
  rename_i xs e
  rw [e] at hx
  have hv:=slot_str hx
  simp only [put1,Pre.eff.injEq] at h
  obtain ⟨_,_,rfl⟩:=h
  have h1:=hg.alloc (.stringIter ⟨⟨xs⟩⟩ 0) (fun _=>False)
  refine ⟨.pointer (some ⟨w.heap.size,0,none⟩),w.alloc (.stringIter ⟨⟨xs⟩⟩ 0),.inl ?_,hb.alloc hg.room _,fun b o=>M b o\/(b=w.heap.size/\False),?_⟩
  . simp only [execOp,ho,hv,Sem.run_bind,run_range_string w T _ hu,Result.andThen_ok,Sem.run_pure]
    rfl
  . have hnew:=heap_alloc_new w (.stringIter ⟨⟨xs⟩⟩ 0)
    cases hd:o.dst with
    | none=>exact h1
    | some d =>
      show Good _ _ _ (st.set d _) (a.put (some d) _) _
      rcases Nat.lt_or_ge d st.length with hlt|hge
      . refine h1.put hlt (fun cs e=>by have:=hnb d hd;rw [e] at this;cases this) trivial ⟨_,rfl,hnew⟩ ?_ ?_
        . intro k b hk
          have hb0:k=none/\b=w.heap.size:=by
            cases k with
            | none =>
              refine ⟨rfl,?_⟩
              have:=hk.2
              rw [tm_put a _ _ _ (by rw [hg.size];exact hlt),if_pos rfl] at this
              simp [ownB] at this
              exact this.symm
            | some k=>obtain ⟨cs,c0,c,u',e',_⟩:=hk;rw [get_set st _ _ _ hlt,if_pos rfl] at e';cases e'
          obtain ⟨rfl,rfl⟩:=hb0
          exact ⟨fun hF=>absurd (hg.room _ hF) (Nat.lt_irrefl _),fun j l _ ho'=>absurd (owns_lt hg.slot (owns_world (fun i b ho'=>heap_alloc_old w _ b (owns_lt hg.slot ho')) ho')) (by omega)⟩
        . intro k l b hk hl
          have key:∀ k,owns (st.set d (.sit xs 0)) (a.put (some d) (.pointer (some ⟨w.heap.size,0,none⟩))) (w.alloc (.stringIter ⟨⟨xs⟩⟩ 0)) d k b->k=none:=by
            intro k hk
            cases k with
            | none=>rfl
            | some k=>obtain ⟨cs,c0,c,u',e',_⟩:=hk;rw [get_set st _ _ _ hlt,if_pos rfl] at e';cases e'
          rw [key k hk,key l hl]
      . rw [List.set_eq_of_length_le hge,put_oob (by rw [hg.size];exact hge)]
        exact h1
theorem Good.iterAt (h:Good M0 F M st a w) {i:Nat} {xs:List UInt8} {pos pos' r:Nat} (hi:get st i = .sit xs pos) (hv:tm a i = .pointer (some ⟨r,0,none⟩)) (hr:w.heap[r]? = some (.stringIter ⟨⟨xs⟩⟩ pos)) :
    Good M0 F M (st.set i (.sit xs pos')) a (w.iterAt r ⟨⟨xs⟩⟩ pos'):=by
  have hlt:i<st.length:=by
    rcases Nat.lt_or_ge i st.length with h'|h'
    . exact h'
    . rw [get_oob h'] at hi;cases hi
  have hown:owns st a w i none r:=⟨by rw [hi];rfl,by rw [hv];rfl⟩
  have hcell:∀ b o,(w.iterAt r ⟨⟨xs⟩⟩ pos').cell? ⟨b,o,none⟩=w.cell? ⟨b,o,none⟩:=by
    intro b o
    by_cases e:b=r
    . subst e
      have h1:=Lib.iterAt_heap w b ⟨⟨xs⟩⟩ pos pos' hr
      unfold World.cell?
      simp [h1,hr]
    . exact World.cell?_of_block (a:=⟨b,o,none⟩) (Lib.iterAt_other w r b _ _ e)
  have hstab:Stable M w M (w.iterAt r ⟨⟨xs⟩⟩ pos'):=fun b o v h1 h2=>⟨(hcell b o).trans h1,h2⟩
  have hset:∀ j,get (st.set i (.sit xs pos')) j=if j=i then .sit xs pos' else get st j:=fun j=>get_set st i j _ hlt
  have howns:∀ j k b,owns (st.set i (.sit xs pos')) a (w.iterAt r ⟨⟨xs⟩⟩ pos') j k b->owns st a w j k b:=by
    intro j k b ho
    by_cases hj:j=i
    . subst hj
      cases k with
      | none=>exact ⟨by rw [hi];rfl,ho.2⟩
      | some k=>obtain ⟨cs,c0,c,v,e,_⟩:=ho;rw [hset,if_pos rfl] at e;cases e
    . cases k with
      | none=>exact ⟨by have:=ho.1;rwa [hset,if_neg hj] at this,ho.2⟩
      | some k =>
        obtain ⟨cs,c0,c,v,e1,e2,e3,e4,e5,e6⟩:=ho
        rw [hset,if_neg hj] at e1
        exact ⟨cs,c0,c,v,e1,e2,e3,e4,by rw [<- hcell];exact e5,e6⟩
  have ht:Turn st a w (st.set i (.sit xs pos')) a (w.iterAt r ⟨⟨xs⟩⟩ pos'):=by
    refine ⟨fun h' u ys e=>?_,fun h' cs k u ys e1 e2=>?_,fun h' u ys e=>?_,fun h' cs k u ys e1 e2=>?_,fun h' cs e=>?_⟩
    . rw [hset] at e;split at e
      . cases e
      . exact ⟨e,rfl⟩
    . rw [hset] at e1;split at e1
      . cases e1
      . exact ⟨cs,e1,e2,rfl,fun b _=>hcell b k⟩
    . rw [hset] at e;split at e
      . cases e
      . exact ⟨ys,e,rfl⟩
    . rw [hset] at e1;split at e1
      . cases e1
      . exact ⟨cs,ys,e1,e2,rfl,fun b _=>hcell b k⟩
    . refine ⟨⟨cs,?_⟩,rfl⟩
      rw [hset,if_neg]
      . exact e
      . intro e';subst e';rw [hi] at e;cases e
  refine ⟨h.defers.keep (KeepsD.but hr (by simp) fun k _ hk=>Lib.iterAt_other w r k _ _ hk),by rw [h.size];simp,fun b hF=>by rw [Lib.iterAt_size];exact h.room b hF,h.base,h.up,fun b o hm=>by rw [Lib.iterAt_size];exact h.lt b o hm,h.down,fun j=>?_,
    fun j k j' l b h1 h2=>h.one j k j' l b (howns _ _ _ h1) (howns _ _ _ h2),fun j k b h1=>h.new j k b (howns _ _ _ h1),h.keep.trans hstab,h.pin_turn ht,h.dm⟩
  rw [hset]
  split
  . rename_i e
    subst e
    exact ⟨r,hv,Lib.iterAt_heap w r _ pos pos' hr⟩
  . rename_i hj
    refine SlotOK.keep hstab ht rfl rfl (h.slot j) fun k b ho=>⟨?_,fun _ h=>h⟩
    refine Lib.iterAt_other w r b _ _ ?_
    rintro rfl
    exact hj (h.one j k i none b ho hown).1
theorem op_next {x:Operand} {isS:Bool} (hg:Good M0 F M st a w) (hb:Fr F w0 w) (hnb:NoBox st o) (ho:o.op = .next x isS)
    {c:Bool} {rd:Nat} {wr:List (Nat×S)} (h:vpre P Φ o st = .eff c rd wr):ORun P F M0 w0 o a w (app wr st):=by
  simp only [vpre,ho] at h
  split at h
  rotate_left
  . cases h
  unfold preNext at h
  split at h
  rotate_left
  . cases h
  rename_i _ hm xs pos e
  split at h
  rotate_left
  . cases h
  rename_i _ d hd
  split at h
  . cases h
  rename_i hne
  simp only [Pre.eff.injEq] at h
  obtain ⟨_,_,rfl⟩:=h
  have hs:=hg.slot hm
  have e':get st hm = .sit xs pos:=e
  rw [e'] at hs
  obtain ⟨r,hv,hr⟩:=hs
  have hdst:o.dst=some d:=by
    cases hdd:o.dst with
    | none=>rw [hdd] at hd;simp at hd
    | some d'=>rw [hdd] at hd;simp at hd;rw [hd]
  have hge:¬ F r:=hg.new hm none r ⟨by rw [e'];rfl,by rw [hv];rfl⟩
  have hev:a.eval (.tmp hm) = .pointer (some ⟨r,0,none⟩):=hv
  have fin:∀ (w':World) (pos':Nat) (v:Value),posAt xs pos=pos'->Good M0 F M (st.set hm (.sit xs pos')) a w' ->
      SlotOK M w' (st.set hm (.sit xs pos')) a v (.nxt (decide (pos<List.length (α:=UInt8) xs)) (natI pos) (runeAt xs pos)) ->
      Good M0 F M (app [(hm,.sit xs (posAt xs pos)),(d,.nxt (decide (pos<List.length (α:=UInt8) xs)) (natI pos) (runeAt xs pos))] st) (a.put o.dst v) w':=by
    intro w' pos' v hp hg' hs'
    subst hp
    have:=hg'.fin (dst:=some d) (s:=.nxt (decide (pos<List.length (α:=UInt8) xs)) (natI pos) (runeAt xs pos)) (v:=v)
      (fun d' hd'=>by cases hd';rw [get_set_ne st _ hne];exact hnb d hdst) rfl hs'
    rw [hdst]
    exact this
  by_cases hlt:pos<xs.length
  . have hsz:pos<(⟨⟨xs⟩⟩:ByteArray).size:=hlt
    refine ⟨.tuple #[.bool true,.int .i64 pos,.int .i32 (Utf8.decode ⟨⟨xs⟩⟩ pos).1],w.iterAt r ⟨⟨xs⟩⟩ (pos+(Utf8.decode ⟨⟨xs⟩⟩ pos).2),.inl ?_,hb.but hge rfl rfl rfl (by rw [Lib.iterAt_size];exact Nat.le_refl _) (fun k hk=>Lib.iterAt_other w r k _ _ hk),M,fin _ _ _ (by unfold posAt;rw [decide_eq_true hlt];rfl) (hg.iterAt e' hv hr) ?_⟩
    . simp only [execOp,ho,hev,Sem.run_bind,Lib.run_next_any_at w r _ pos o.type hr hsz,Result.andThen_ok,Sem.run_pure]
    . show _=nxtV (decide (pos<xs.length)) _ _
      rw [decide_eq_true hlt]
      rfl
  . have hsz:¬ pos<(⟨⟨xs⟩⟩:ByteArray).size:=hlt
    have hself:st.set hm (.sit xs pos)=st:=by
      apply List.ext_getElem?
      intro j
      by_cases hj:j=hm
      . subst hj
        have hlt':j<st.length:=by
          rcases Nat.lt_or_ge j st.length with h'|h'
          . exact h'
          . rw [get_oob h'] at e';cases e'
        rw [List.getElem?_set_self hlt']
        unfold get at e'
        rw [List.getD_eq_getElem?_getD,List.getElem?_eq_getElem hlt'] at e'
        rw [List.getElem?_eq_getElem hlt',<- e'];rfl
      . rw [List.getElem?_set_ne (Ne.symm hj)]
    refine ⟨.tuple #[.bool false],w,.inl ?_,hb,M,fin _ pos _ (by unfold posAt;rw [decide_eq_false hlt];rfl) (by rw [hself];exact hg) ?_⟩
    . simp only [execOp,ho,hev,Sem.run_bind,Lib.run_next_end_at w r _ pos o.type hr hsz,Result.andThen_ok,Sem.run_pure]
    . show _=nxtV (decide (pos<xs.length)) _ _
      rw [decide_eq_false hlt]
      rfl
theorem op_assert {x:Operand} {xT aT:TypeId} {ok:Bool} (hg:Good M0 F M st a w) (hb:Fr F w0 w) (hnb:NoBox st o) (ho:o.op = .typeAssert x xT aT ok)
    {c:Bool} {rd:Nat} {wr:List (Nat×S)} (h:vpre P Φ o st = .eff c rd wr):ORun P F M0 w0 o a w (app wr st):=by
  simp only [vpre,ho] at h
  have hx:=opnd_ok hg x
  split at h
  rotate_left
  . cases h
  unfold preAssert at h
  split at h
  rotate_left
  . cases h
  rename_i _ T t v e
  rw [e] at hx
  obtain ⟨cs,e1,ec,e2,e3⟩:=hx
  have hv:a.eval x = .iface T (toVal t ec):=by rw [e1,e2];rfl
  split at h
  . cases h
  . rename_i de hnot hu
    have hni:∀ ms,de ≠ .interface ms:=fun ms e'=>hnot ms e'
    split at h
    . rename_i hT
      subst hT
      refine orun_put hg hb hnb h rfl (v:=.tuple #[toVal t ec,.bool true]) ?_ ⟨[toVal t ec,.bool true],rfl,_,_,rfl,⟨ec,rfl,e3⟩,_,_,rfl,mk_bool _,rfl⟩
      simp only [execOp,ho,hv,Sem.run_bind,Instr.typeAssert,run_underlying hu]
      cases de<;>first|exact absurd rfl (hni _)|simp
    . rename_i hT
      split at h
      rotate_left
      . cases h
      rename_i u hty
      split at h
      rotate_left
      . cases h
      rename_i hz
      obtain ⟨i,z,cz,hi,hzz,ez,ecs,r1,_⟩:=isZero_ok (M:=M) (w:=w) hz
      refine orun_put hg hb hnb h rfl (v:=.tuple #[z,.bool false]) ?_ ⟨[z,.bool false],rfl,_,_,rfl,⟨cz,ez,r1⟩,_,_,rfl,mk_bool _,rfl⟩
      simp only [execOp,ho,hv,Sem.run_bind,Instr.typeAssert,run_underlying hu]
      cases de<;>first|exact absurd rfl (hni _)|simp [hT,zeroValue,typeInfo,hi,hzz]
  . cases h
theorem zeros_get {e:Ty} {n:Nat} {z:Value} {cz:List Value} (hz:z.cells=cz.toArray) (hl:cz.length=e.size) (hpos:0<e.size) (i:Nat) (hi:i<n) :
    (((madeCells z.cells (n * e.size)).toList.drop (i * e.size)).take e.size)=cz:=by
  apply List.ext_getElem?
  intro j
  rw [List.getElem?_take]
  split
  . rename_i hj
    have hlt:i * e.size+j<n * e.size:=by
      have:(i+1) * e.size<=n * e.size:=Nat.mul_le_mul_right _ hi
      rw [Nat.add_mul] at this
      omega
    rw [List.getElem?_drop]
    simp only [madeCells,Array.getElem?_toList,Array.getElem?_map,Array.getElem?_range,hlt]
    rw [hz]
    have hm:(i * e.size+j) % cz.toArray.size=j:=by
      rw [List.size_toArray,hl,Nat.mul_comm,Nat.mul_add_mod,Nat.mod_eq_of_lt hj]
    simp only [if_true,Option.map_some,hm]
    have hj':j<cz.length:=by omega
    simp [hj']
  . rw [List.getElem?_eq_none (by omega)]
theorem makeSlice_core {T E:TypeId} {cp:Operand} {e:Ty} {m:Int} (hg:Good M0 F M st a w) (hb:Fr F w0 w) (hnb:NoBox st o) (ho:o.op = .makeSlice T cp cp)
    (hu:P.underlying T=some (.slice E)) (hty:ty P T=some (.list e)) (hz:isZero P E e=true) (hv:a.eval cp = .int .i64 m) (h0:0<=m) (h1:m<=10000) :
    ORun P F M0 w0 o a w (app (o.dst.toList.map (·,S.arr e (zeros e m) true)) st):=by
  obtain ⟨E',mm,hu',hE,hpos⟩:=ty_list hty
  rw [hu] at hu'
  cases hu'
  obtain ⟨i,hi,hisz,hby,z,hzz,hzs⟩:=ty_info hE
  obtain ⟨i',z',cz,hi',hzz',ez,ecs,r1,_⟩:=isZero_ok (M:=M) (w:=w) hz
  rw [hi] at hi'
  cases hi'
  rw [hzz] at hzz'
  cases hzz'
  have hlen:cz.length=e.size:=RepC.length _ _ _ r1
  obtain ⟨k,hk⟩:∃ k:Nat,m=k:=⟨m.toNat,(Int.toNat_of_nonneg h0).symm⟩
  subst hk
  have h3:(i.bytes:Int) * k<=281474976710656:=by
    have h4:(i.bytes:Int)<=1000:=Int.ofNat_le.2 hby
    have h5:(i.bytes:Int) * k<=1000 * k:=Int.mul_le_mul_of_nonneg_right h4 h0
    omega
  have hrun:=run_make (P:=P) w T E i z hu hi hzz .i64 .i64 k k h0 (Int.le_refl _) h3 (by omega)
  simp only [Int.toNat_natCast,hisz] at hrun
  have hex:(execOp a.eval o).run P w = .ok (.value (.slice (some ⟨w.heap.size,0,none⟩) k k)) (w.alloc (.cells (madeCells z.cells (k * e.size)) E)):=by
    simp only [execOp,ho,hv,Sem.run_bind,hrun,Result.andThen_ok,Sem.run_pure]
  have hst:=stable_alloc M w (.cells (madeCells z.cells (k * e.size)) E) (fun _=>True)
  have h1':=hg.alloc (.cells (madeCells z.cells (k * e.size)) E) (fun _=>True)
  have hnew:=heap_alloc_new w (.cells (madeCells z.cells (k * e.size)) E)
  have hzl:(zeros e (k:Int)).length=k:=by simp [zeros]
  refine ⟨_,_,.inl hex,hb.alloc hg.room _,_,h1'.fin_arr hnb (.inr ⟨w.heap.size,k,_,E,by rw [hzl],hnew,by rw [hzl];exact Nat.le_refl _,by unfold maxLen;omega,size_madeCells _ _,fun o=>.inr ⟨rfl,trivial⟩,fun j hj=>?_⟩) ?_⟩
  . have hjk:j<k:=by rw [hzl] at hj;exact hj
    rw [zeros_get ecs hlen hpos j hjk]
    have:(zeros e (k:Int))[j]=e.zero:=by simp [zeros]
    rw [this]
    exact RepC.mono hst _ _ _ r1
  . intro b hbb
    simp [ownB] at hbb
    subst hbb
    exact ⟨fun hF=>absurd (hg.room _ hF) (Nat.lt_irrefl _),fun j l ho=>absurd (owns_lt hg.slot (owns_world (fun i b ho'=>heap_alloc_old w _ b (owns_lt hg.slot ho')) ho)) (by omega)⟩
theorem op_makeSlice {T:TypeId} {n cp:Operand} (hg:Good M0 F M st a w) (hb:Fr F w0 w) (hnb:NoBox st o) (ho:o.op = .makeSlice T n cp)
    {c:Bool} {rd:Nat} {wr:List (Nat×S)} (h:vpre P Φ o st = .eff c rd wr) (hc:c=true):ORun P F M0 w0 o a w (app wr st):=by
  simp only [vpre,ho] at h
  have hx:=opnd_ok hg n
  unfold preMakeSlice at h
  split at h
  rotate_left
  . cases h
  rename_i hsame
  have hcp:cp=n:=by
    cases n<;>cases cp<;>simp [sameTmp] at hsame
    rw [hsame]
  subst hcp
  split at h
  rotate_left
  . cases h
  rename_i E hu
  split at h
  rotate_left
  . cases h
  rename_i e hty
  split at h
  rotate_left
  . cases h
  rename_i hz
  split at h
  rotate_left
  . cases h
  rename_i m es
  rw [es] at hx
  have hv:=slot_int hx
  simp only [put1,Pre.eff.injEq] at h
  obtain ⟨hcc,_,rfl⟩:=h
  rw [hc] at hcc
  simp only [mayMake,Bool.and_eq_true,decide_eq_true_eq] at hcc
  obtain ⟨h0,h1⟩:=hcc
  exact makeSlice_core hg hb hnb ho hu hty hz hv h0 h1
end
end Go.V
namespace Go.V
open Go.RowKit (Below)
section
variable {P : Program} {Φ : Nat → List Spec} {F : Nat → Prop} {M0 : Base} {w0 : World} {M : Mut} {st : St} {a : Act} {w : World} {o : Oper}
theorem splice_get {α:Type} (xs ys:List α) (off:Nat) (h:off+ys.length<=xs.length) (k:Nat) :
    (xs.take off++ys++xs.drop (off+ys.length))[k]? = if off<=k/\k<off+ys.length then ys[k - off]? else xs[k]? := by
  have ht:(xs.take off).length=off:=by simp;omega
  by_cases h1:k<off
  . rw [if_neg (by omega),List.append_assoc,List.getElem?_append_left (by omega)]
    simp [List.getElem?_take,h1]
  . rw [List.append_assoc,List.getElem?_append_right (by omega),ht]
    by_cases h2:k<off+ys.length
    . rw [if_pos ⟨by omega,h2⟩,List.getElem?_append_left (by omega)]
    . rw [if_neg (by omega),List.getElem?_append_right (by omega),List.getElem?_drop]
      congr 1;omega
theorem store_core (hg:Good M0 F M st a w) (hb:Fr F w0 w) {T:TypeId} {x y:Operand} (ho:o.op = .store T x y) (hd:o.dst=none)
    {n:Nat} {t:Ty} (ht:tyOf P n T=some t) {hm off b:Nat} {cs:List C} (hc:get st hm = .box cs) (htm:tm a hm = .pointer (some ⟨b,0,none⟩)) (hx:a.eval x = .pointer (some ⟨b,off,none⟩))
    {seg:List Value} {cseg:List C} (hv:(a.eval y).cells=seg.toArray) (hl:seg.length=t.size) (hl2:cseg.length=t.size) (hok:CellsOK M w seg cseg) (h1:∀ v∈seg,v.oneCell'=true)
    (hfit:off+t.size<=cs.length) (hf:∀ (k:Nat) u ys,cseg[k]? ≠ some (C.own u ys false)/\cseg[k]? ≠ some (C.arr u ys false))
    (hown:∀ (k:Nat) c0 v g,cseg[k]? = some c0->ownC c0=true->seg[k]? = some v->ownB v=some g->¬ F g/\∀ j l,¬ owns st a w j l g)
    (hone:(∀ (k:Nat) c0,cseg[k]? = some c0->ownC c0=false)\/cseg.length=1) :
    ORun P F M0 w0 o a w (st.set hm (.box (cs.take off++cseg++cs.drop (off+t.size)))):=by
  have hs:=hg.slot hm
  rw [hc] at hs
  obtain ⟨b',E,cells,f1,f2,f3,f4,f5⟩:=hs
  rw [htm] at f1;cases f1
  rw [cellsOK_iff] at hok
  have hrun:=run_storeVar (P:=P) ht (o:=off) (v:=a.eval y) (by rw [hv];simpa using hl) f2 (by omega) (by rw [hv];simpa using h1)
  rw [hv] at hrun
  simp only at hrun
  have hrow:∀ k,((cells.toList.take off++seg++cells.toList.drop (off+t.size)).toArray)[k]? = if off<=k/\k<off+t.size then seg[k - off]? else cells[k]? := fun k=>by
    have:=splice_get cells.toList seg off (by simp;omega) k
    rw [hl] at this
    simpa using this
  have hcs:∀ k:Nat,(cs.take off++cseg++cs.drop (off+t.size))[k]? = if off<=k/\k<off+t.size then cseg[k - off]? else cs[k]? := fun k=>by
    have:=splice_get cs cseg off (by omega) k
    rw [hl2] at this
    exact this
  refine ⟨undef,w.setRow b (cells.toList.take off++seg++cells.toList.drop (off+t.size)).toArray,.inr ⟨?_,rfl⟩,hb.but (g:=b) ?_ rfl rfl rfl (by simp) (fun k hk=>setRow_other w b k _ hk),M,?_⟩
  . simp only [execOp,ho,hx,Instr.storeAt,Instr.sureAddr,Sem.run_bind,Sem.run_pure,Result.andThen_ok]
    rw [hrun]
    rfl
  . exact hg.new hm none b ⟨by rw [hc];rfl,by rw [htm];rfl⟩
  . rw [hd]
    show Good M0 F M _ a _
    refine hg.setbox hc htm f2 ?_ ?_ ?_ ?_ ?_ ?_
    . simp;omega
    . intro k c u e1 e2
      rw [hcs] at e1;rw [hrow] at e2
      split at e1
      . rename_i hk;rw [if_pos hk] at e2;exact hok.2 _ _ _ e1 e2
      . rename_i hk;rw [if_neg hk] at e2;exact f5 _ _ _ e1 e2
    . intro k u ys e1
      rw [hcs] at e1
      split at e1
      . exact absurd e1 (hf _ _ _).1
      . rename_i hk;exact ⟨e1,by rw [hrow,if_neg hk]⟩
    . intro k u ys e1
      rw [hcs] at e1
      split at e1
      . exact absurd e1 (hf _ _ _).2
      . rename_i hk;exact ⟨ys,e1,by rw [hrow,if_neg hk]⟩
    . intro k c0 v g e1 e0 e2 e3
      rw [hcs] at e1;rw [hrow] at e2
      split at e1
      . rename_i hk;rw [if_pos hk] at e2;exact .inr (hown _ _ _ _ e1 e0 e2 e3)
      . rename_i hk;rw [if_neg hk] at e2;exact .inl ⟨⟨_,e1,e0⟩,e2⟩
    . intro k k' c0 v g c1 v' e1 e0 e2 e3 e4 e1' e0' e2' e3'
      rw [hcs] at e1 e1';rw [hrow] at e2 e2'
      have inseg:∀ (k:Nat) c0 v,(if off<=k/\k<off+t.size then cseg[k - off]? else cs[k]?)=some c0->ownC c0=true->(if off<=k/\k<off+t.size then seg[k - off]? else cells[k]?)=some v->ownB v=some g->off<=k/\k<off+t.size:=by
        intro k c0 v p1 p0 p2 p3
        by_cases hk:off<=k/\k<off+t.size
        . exact hk
        . rw [if_neg hk] at p1 p2
          exact absurd ⟨cs,c0,b,v,hc,p1,p0,by rw [htm];rfl,by rw [cell_of_row w b k cells E (0,0) f2];exact p2,p3⟩ (e4 hm (some k))
      have k1:=inseg k c0 v e1 e0 e2 e3
      have k2:=inseg k' c1 v' e1' e0' e2' e3'
      rcases hone with h'|h'
      . rw [if_pos k1] at e1;have:=h' _ _ e1;rw [e0] at this;cases this
      . rw [hl2] at h';omega
theorem set_splice (cs:List C) (off:Nat) (c:C) (h:off<cs.length):cs.set off c=cs.take off++[c]++cs.drop (off+1):=by
  rw [List.set_eq_take_append_cons_drop,if_pos h]
  simp
theorem storeL_core (hg:Good M0 F M st a w) (hb:Fr F w0 w) {T:TypeId} {x y:Operand} (ho:o.op = .store T x y) (hd:o.dst=none)
    {n:Nat} {e:Ty} (ht:tyOf P n T=some (.list e)) {hm off b:Nat} {cs:List C} (hc:get st hm = .box cs) (htm:tm a hm = .pointer (some ⟨b,0,none⟩)) (hx:a.eval x = .pointer (some ⟨b,off,none⟩))
    {c:C} (hr:∃ p n c,a.eval y = .slice p n c) (hok:CellOK M w (a.eval y) c) (hfit:off<cs.length) (hf:∀ u ys,c≠C.own u ys false/\c≠C.arr u ys false)
    (hown:∀ g,ownC c=true->ownB (a.eval y)=some g->¬ F g/\∀ j l,¬ owns st a w j l g) :
    ORun P F M0 w0 o a w (st.set hm (.box (cs.set off c))):=by
  rw [set_splice cs off c hfit]
  obtain ⟨p,n',c',hr⟩:=hr
  refine store_core (seg:=[a.eval y]) (cseg:=[c]) hg hb ho hd ht hc htm hx (by rw [hr];rfl) rfl rfl ⟨hok,trivial⟩ (fun v hv=>by rw [List.mem_singleton] at hv;subst hv;rw [hr];rfl) (by show off+1<=cs.length;omega)
    (fun k u ys=>⟨fun e'=>?_,fun e'=>?_⟩) (fun k c0 v g e1 e0 e2 e3=>?_) (.inr rfl)
  . cases k with
    | zero=>simp at e';exact (hf _ _).1 e'
    | succ k=>simp at e'
  . cases k with
    | zero=>simp at e';exact (hf _ _).2 e'
    | succ k=>simp at e'
  . cases k with
    | zero=>simp at e1 e2;subst e2;subst e1;exact hown _ e0 e3
    | succ k=>simp at e1
theorem rep_slice {e:Ty} {v:Value} {xs:List e.den} (h:RepC M w (.list e) [v] xs):∃ p n c,v = .slice p n c:=by
  obtain ⟨p,cap,f1,_⟩:=h
  simp only [List.cons.injEq,and_true] at f1
  exact ⟨_,_,_,f1⟩
theorem arr_set {M M':Mut} {w w':World} (hs:Stable M w M' w') {t:Ty} {xs:List t.den} {i:Nat} {x:t.den} {g cap:Nat} {cells:Array Value} {T:TypeId} {seg:List Value}
    (e2:w'.heap[g]? = some (.cells (cells.toList.take (i * t.size)++seg++cells.toList.drop (i * t.size+t.size)).toArray T (0,0))) (e3:xs.length<=cap) (e4:cap<=maxLen)
    (e5:cells.size=cap * t.size) (e6:∀ o,M' g o) (e7:∀ i (h:i<xs.length),RepC M w t ((cells.toList.drop (i * t.size)).take t.size) xs[i]) (hi:i<xs.length) (hseg:RepC M w t seg x) :
    ArrAt M' w' t (.slice (some ⟨g,0,none⟩) xs.length cap) (xs.set i x):=by
  have hl:=RepC.length _ _ _ hseg
  have hfit:(i+1) * t.size<=cap * t.size:=Nat.mul_le_mul_right _ (by omega)
  rw [Nat.add_mul,Nat.one_mul] at hfit
  have hsz:cells.toList.length=cap * t.size:=by simpa using e5
  refine .inr ⟨g,cap,_,T,by simp,e2,by simpa using e3,e4,?_,e6,fun j hj=>?_⟩
  . simp;omega
  . rw [List.length_set] at hj
    have hget:∀ k,(cells.toList.take (i * t.size)++seg++cells.toList.drop (i * t.size+t.size))[k]? = if i * t.size<=k/\k<i * t.size+t.size then seg[k - i * t.size]? else cells.toList[k]? := fun k=>by
      have:=splice_get cells.toList seg (i * t.size) (by omega) k
      rw [hl] at this
      exact this
    by_cases hji:j=i
    . subst hji
      have:(((cells.toList.take (j * t.size)++seg++cells.toList.drop (j * t.size+t.size)).toArray.toList.drop (j * t.size)).take t.size)=seg:=by
        apply List.ext_getElem?
        intro k
        rw [List.getElem?_take]
        split
        . rename_i hk
          rw [List.getElem?_drop]
          simp only [hget]
          rw [if_pos ⟨by omega,by omega⟩]
          congr 1;omega
        . rename_i hk
          rw [List.getElem?_eq_none (by omega)]
      rw [this,List.getElem_set_self]
      exact RepC.mono hs _ _ _ hseg
    . have:(((cells.toList.take (i * t.size)++seg++cells.toList.drop (i * t.size+t.size)).toArray.toList.drop (j * t.size)).take t.size)=(cells.toList.drop (j * t.size)).take t.size:=by
        apply List.ext_getElem?
        intro k
        rw [List.getElem?_take,List.getElem?_take]
        split
        . rename_i hk
          rw [List.getElem?_drop,List.getElem?_drop]
          simp only [hget]
          rw [if_neg]
          rintro ⟨h1,h2⟩
          rcases Nat.lt_or_gt_of_ne hji with h3|h3
          . have:(j+1) * t.size<=i * t.size:=Nat.mul_le_mul_right _ h3
            rw [Nat.add_mul,Nat.one_mul] at this;omega
          . have:(i+1) * t.size<=j * t.size:=Nat.mul_le_mul_right _ h3
            rw [Nat.add_mul,Nat.one_mul] at this;omega
        . rfl
      rw [this,List.getElem_set_ne (Ne.symm hji)]
      exact RepC.mono hs _ _ _ (e7 j hj)
theorem Good.setarr (hg:Good M0 F M st a w) {hm:Nat} {k:Option Nat} {y:(t:Ty)×List t.den} (h:arrOf st hm k=some y) {i:Nat} (hi:i<y.2.length) {x:y.1.den} {seg:List Value} (hseg:RepC M w y.1 seg x) :
    ∃ g cells T,(∀ u,SlotOK M w st a u (.ea hm k y.1 i)->u = .pointer (some ⟨g,i * y.1.size,none⟩))/\w.heap[g]? = some (.cells cells T (0,0))/\i * y.1.size+y.1.size<=cells.size/\¬ F g /\
      Good M0 F M (st.set hm (setArr st hm k y.1 (y.2.set i x))) a (w.setRow g (cells.toList.take (i * y.1.size)++seg++cells.toList.drop (i * y.1.size+y.1.size)).toArray):=by
  have harr:=h
  unfold arrOf at h
  cases k with
  | none =>
    dsimp only at h
    split at h
    rotate_left
    . cases h
    rename_i t xs e
    cases h
    dsimp only at hi hseg
    have hil:hm<st.length:=by
      rcases Nat.lt_or_ge hm st.length with h'|h'
      . exact h'
      . rw [get_oob h'] at e;cases e
    have hs:=hg.slot hm
    rw [e] at hs
    rcases hs with ⟨_,e2⟩|⟨g,cap,cells,T,e1,e2,e3,e4,e5,e6,e7⟩
    . subst e2;simp at hi
    have hgo:owns st a w hm none g:=⟨by rw [e];rfl,by rw [e1];rfl⟩
    refine ⟨g,cells,T,fun u hu=>?_,e2,?_,hg.new _ _ _ hgo,?_⟩
    . obtain ⟨g',q1,q2⟩:=hu xs e
      rw [e1] at q1;simp [ownB] at q1;subst q1;exact q2
    . have:(i+1) * t.size<=cap * t.size:=Nat.mul_le_mul_right _ (by omega)
      rw [Nat.add_mul,Nat.one_mul] at this
      show i * t.size+t.size<=cells.size
      omega
    show Good M0 F M (st.set hm (.arr t (xs.set i x) false)) a _
    generalize hrw:(cells.toList.take (i * t.size)++seg++cells.toList.drop (i * t.size+t.size)).toArray=row
    have hset:∀ j,get (st.set hm (.arr t (xs.set i x) false)) j=if j=hm then .arr t (xs.set i x) false else get st j:=fun j=>get_set st hm j _ hil
    have hsame:=setRow_heap w g cells row T (0,0) e2
    have hother:∀ b,b≠g->(w.setRow g row).heap[b]? = w.heap[b]? := fun b hb=>setRow_other w g b row hb
    have hst:Stable M w M (w.setRow g row):=fun b o v h1 h2=>by
      have hgb:b≠g:=fun h=>h2 (h ▸ e6 o)
      exact ⟨by rw [World.cell?_of_block (w:=w) (a:=⟨b,o,none⟩) (hother b hgb)];exact h1,h2⟩
    have hne:∀ j l b,j≠hm->owns st a w j l b->b≠g:=fun j l b hj ho h'=>by subst h';exact hj (hg.one j l hm none b ho hgo).1
    have howns:∀ j l b,owns (st.set hm (.arr t (xs.set i x) false)) a (w.setRow g row) j l b->owns st a w j l b:=by
      intro j l b ho
      cases l with
      | none =>
        by_cases hj:j=hm
        . subst hj;exact ⟨by rw [e];rfl,ho.2⟩
        . simpa only [owns,hset,if_neg hj] using ho
      | some l =>
        obtain ⟨ds,c0,c,v,q1,q2,q0,q3,q4,q5⟩:=ho
        rw [hset] at q1
        split at q1
        . cases q1
        . rename_i hj
          have hcg:c≠g:=hne j none c hj ⟨by rw [q1];rfl,q3⟩
          rw [World.cell?_of_block (w:=w) (a:=⟨c,l,none⟩) (hother c hcg)] at q4
          exact ⟨ds,c0,c,v,q1,q2,q0,q3,q4,q5⟩
    have hbx:∀ j ds,get st j = .box ds->∀ c,ownB (tm a j)=some c->c≠g:=fun j ds q1 c q2=>hne j none c (fun h'=>by subst h';rw [e] at q1;cases q1) ⟨by rw [q1];rfl,q2⟩
    have hturn:Turn st a w (st.set hm (.arr t (xs.set i x) false)) a (w.setRow g row):=by
      refine ⟨fun h u ys q=>?_,fun h ds k u ys q1 q2=>?_,fun h u ys q=>?_,fun h ds k u ys q1 q2=>?_,fun h ds q=>?_⟩
      . rw [hset] at q;split at q
        . cases q
        . exact ⟨q,rfl⟩
      . rw [hset] at q1;split at q1
        . cases q1
        . exact ⟨ds,q1,q2,rfl,fun c hc=>World.cell?_of_block (w:=w) (a:=⟨c,k,none⟩) (hother c (hbx h ds q1 c hc))⟩
      . rw [hset] at q;split at q
        . rename_i hj;subst hj;cases q;exact ⟨xs,e,rfl⟩
        . exact ⟨ys,q,rfl⟩
      . rw [hset] at q1;split at q1
        . cases q1
        . exact ⟨ds,ys,q1,q2,rfl,fun c hc=>World.cell?_of_block (w:=w) (a:=⟨c,k,none⟩) (hother c (hbx h ds q1 c hc))⟩
      . refine ⟨⟨ds,?_⟩,rfl⟩
        rw [hset,if_neg]
        . exact q
        . intro h';subst h';rw [e] at q;cases q
    refine ⟨hg.defers.keep (KeepsD.but e2 (by simp) fun k _ hk=>hother k hk),by simpa using hg.size,by simpa using hg.room,hg.base,hg.up,fun b o hM=>by simpa using hg.lt b o hM,hg.down,fun j=>?_,
      fun j l j' l' b h1 h2=>hg.one j l j' l' b (howns _ _ _ h1) (howns _ _ _ h2),fun j l b h1=>hg.new j l b (howns _ _ _ h1),hg.keep.trans hst,hg.pin_turn hturn,hg.dm⟩
    by_cases hj:j=hm
    . subst hj
      rw [hset,if_pos rfl,e1]
      exact arr_set (T:=T) hst (by rw [hrw];exact hsame) e3 e4 e5 e6 e7 hi hseg
    . rw [hset,if_neg hj]
      exact SlotOK.keep hst hturn rfl rfl (hg.slot j) fun l b ho=>⟨hother b (hne j l b hj ho),fun _ h=>h⟩
  | some k =>
    dsimp only at h
    split at h
    rotate_left
    . cases h
    rename_i cs e
    split at h
    rotate_left
    . cases h
    rename_i t xs ek
    cases h
    dsimp only at hi hseg
    have hil:hm<st.length:=by
      rcases Nat.lt_or_ge hm st.length with h'|h'
      . exact h'
      . rw [get_oob h'] at e;cases e
    have hkl:k<cs.length:=(List.getElem?_eq_some_iff.1 ek).1
    have hs:=hg.slot hm
    rw [e] at hs
    obtain ⟨b0,T0,bc,f1,f2,f3,f4,f5⟩:=hs
    have hk2:k<bc.size:=by omega
    have hv:bc[k]? = some bc[k]:=Array.getElem?_eq_getElem hk2
    have hcell:w.cell? ⟨b0,k,none⟩=some bc[k]:=by rw [cell_of_row w b0 k bc T0 (0,0) f2];exact hv
    have hob:ownB (tm a hm)=some b0:=by rw [f1];rfl
    have hbo:owns st a w hm none b0:=⟨by rw [e];rfl,hob⟩
    rcases (show ArrAt M w t bc[k] xs from f5 k _ _ ek hv) with ⟨_,e2⟩|⟨g,cap,cells,T,e1,e2,e3,e4,e5,e6,e7⟩
    . subst e2;simp at hi
    have hgo:owns st a w hm (some k) g:=⟨cs,_,b0,bc[k],e,ek,rfl,hob,hcell,by rw [e1];rfl⟩
    have hgb0:b0≠g:=fun h'=>by subst h';have:=(hg.one hm none hm (some k) b0 hbo hgo).2;cases this
    refine ⟨g,cells,T,fun u hu=>?_,e2,?_,hg.new _ _ _ hgo,?_⟩
    . obtain ⟨u',g',q0,q1,q2⟩:=hu cs xs b0 e ek hob
      rw [hcell] at q0;cases q0
      rw [e1] at q1;simp [ownB] at q1;subst q1;exact q2
    . have:(i+1) * t.size<=cap * t.size:=Nat.mul_le_mul_right _ (by omega)
      rw [Nat.add_mul,Nat.one_mul] at this
      show i * t.size+t.size<=cells.size
      omega
    have hsa:setArr st hm (some k) t (xs.set i x) = .box (cs.set k (.arr t (xs.set i x) false)):=by unfold setArr;dsimp only;rw [e]
    show Good M0 F M (st.set hm (setArr st hm (some k) t (xs.set i x))) a _
    rw [hsa]
    generalize hrw:(cells.toList.take (i * t.size)++seg++cells.toList.drop (i * t.size+t.size)).toArray=row
    generalize hcs:cs.set k (.arr t (xs.set i x) false)=cs'
    have hc':∀ l,cs'[l]? = if l=k then some (.arr t (xs.set i x) false) else cs[l]? := fun l=>by
      rw [<- hcs]
      by_cases hl:l=k
      . subst hl;rw [if_pos rfl,List.getElem?_set_self hkl]
      . rw [if_neg hl,List.getElem?_set_ne (Ne.symm hl)]
    have hlen:cs'.length=cs.length:=by rw [<- hcs];simp
    have hset:∀ j,get (st.set hm (.box cs')) j=if j=hm then .box cs' else get st j:=fun j=>get_set st hm j _ hil
    have hsame:=setRow_heap w g cells row T (0,0) e2
    have hother:∀ b,b≠g->(w.setRow g row).heap[b]? = w.heap[b]? := fun b hb=>setRow_other w g b row hb
    have hst:Stable M w M (w.setRow g row):=fun b o v h1 h2=>by
      have hgb:b≠g:=fun h=>h2 (h ▸ e6 o)
      exact ⟨by rw [World.cell?_of_block (w:=w) (a:=⟨b,o,none⟩) (hother b hgb)];exact h1,h2⟩
    have hne:∀ j l b,¬ (j=hm/\l=some k)->owns st a w j l b->b≠g:=fun j l b hj ho h'=>by subst h';exact hj (hg.one j l hm (some k) b ho hgo)
    have howns:∀ j l b,owns (st.set hm (.box cs')) a (w.setRow g row) j l b->owns st a w j l b:=by
      intro j l b ho
      cases l with
      | none =>
        by_cases hj:j=hm
        . subst hj;exact ⟨by rw [e];rfl,ho.2⟩
        . simpa only [owns,hset,if_neg hj] using ho
      | some l =>
        obtain ⟨ds,c0,c,v,q1,q2,q0,q3,q4,q5⟩:=ho
        rw [hset] at q1
        split at q1
        . rename_i hj;subst hj;cases q1
          rw [hob] at q3;cases q3
          rw [World.cell?_of_block (w:=w) (a:=⟨b0,l,none⟩) (hother b0 hgb0)] at q4
          rw [hc'] at q2
          split at q2
          . rename_i hl;subst hl
            exact ⟨cs,_,b0,v,e,ek,rfl,hob,q4,q5⟩
          . exact ⟨cs,c0,b0,v,e,q2,q0,hob,q4,q5⟩
        . have hcg:c≠g:=hne j none c (fun h'=>by cases h'.2) ⟨by rw [q1];rfl,q3⟩
          rw [World.cell?_of_block (w:=w) (a:=⟨c,l,none⟩) (hother c hcg)] at q4
          exact ⟨ds,c0,c,v,q1,q2,q0,q3,q4,q5⟩
    have hbx:∀ j ds,get st j = .box ds->∀ c,ownB (tm a j)=some c->c≠g:=fun j ds q1 c q2=>hne j none c (fun h'=>by cases h'.2) ⟨by rw [q1];rfl,q2⟩
    have hturn:Turn st a w (st.set hm (.box cs')) a (w.setRow g row):=by
      refine ⟨fun h u ys q=>?_,fun h ds l u ys q1 q2=>?_,fun h u ys q=>?_,fun h ds l u ys q1 q2=>?_,fun h ds q=>?_⟩
      . rw [hset] at q;split at q
        . cases q
        . exact ⟨q,rfl⟩
      . rw [hset] at q1;split at q1
        . rename_i hj;subst hj;cases q1
          rw [hc'] at q2
          split at q2
          . cases q2
          . exact ⟨cs,e,q2,rfl,fun c hc=>World.cell?_of_block (w:=w) (a:=⟨c,l,none⟩) (hother c (hbx h cs e c hc))⟩
        . exact ⟨ds,q1,q2,rfl,fun c hc=>World.cell?_of_block (w:=w) (a:=⟨c,l,none⟩) (hother c (hbx h ds q1 c hc))⟩
      . rw [hset] at q;split at q
        . cases q
        . exact ⟨ys,q,rfl⟩
      . rw [hset] at q1;split at q1
        . rename_i hj;subst hj;cases q1
          rw [hc'] at q2
          split at q2
          . rename_i hl;subst hl;cases q2
            exact ⟨cs,xs,e,ek,rfl,fun c hc=>World.cell?_of_block (w:=w) (a:=⟨c,l,none⟩) (hother c (hbx h cs e c hc))⟩
          . exact ⟨cs,ys,e,q2,rfl,fun c hc=>World.cell?_of_block (w:=w) (a:=⟨c,l,none⟩) (hother c (hbx h cs e c hc))⟩
        . exact ⟨ds,ys,q1,q2,rfl,fun c hc=>World.cell?_of_block (w:=w) (a:=⟨c,l,none⟩) (hother c (hbx h ds q1 c hc))⟩
      . rw [hset];split
        . exact ⟨⟨_,rfl⟩,rfl⟩
        . exact ⟨⟨ds,q⟩,rfl⟩
    refine ⟨hg.defers.keep (KeepsD.but e2 (by simp) fun k _ hk=>hother k hk),by simpa using hg.size,by simpa using hg.room,hg.base,hg.up,fun b o hM=>by simpa using hg.lt b o hM,hg.down,fun j=>?_,
      fun j l j' l' b h1 h2=>hg.one j l j' l' b (howns _ _ _ h1) (howns _ _ _ h2),fun j l b h1=>hg.new j l b (howns _ _ _ h1),hg.keep.trans hst,hg.pin_turn hturn,hg.dm⟩
    by_cases hj:j=hm
    . subst hj
      rw [hset,if_pos rfl]
      refine ⟨b0,T0,bc,f1,(hother b0 hgb0).trans f2,by rw [hlen];exact f3,f4,fun l c u hl hu=>?_⟩
      rw [hc'] at hl
      split at hl
      . rename_i hlk;subst hlk;cases hl
        rw [hv] at hu;cases hu
        show ArrAt M (w.setRow g row) t bc[l] (xs.set i x)
        rw [e1]
        exact arr_set (T:=T) hst (by rw [hrw];exact hsame) e3 e4 e5 e6 e7 hi hseg
      . rename_i hlk
        refine (f5 l c u hl hu).keep hst fun b q1 q2=>⟨hother b (hne j (some l) b (fun h'=>hlk (by simpa using h'.2)) ⟨cs,c,b0,u,e,hl,q1,hob,by rw [cell_of_row w b0 l bc T0 (0,0) f2];exact hu,q2⟩),fun _ h=>h⟩
    . rw [hset,if_neg hj]
      exact SlotOK.keep hst hturn rfl rfl (hg.slot j) fun l b ho=>⟨hother b (hne j l b (fun h'=>hj h'.1) ho),fun _ h=>h⟩
theorem op_store (hg:Good M0 F M st a w) (hb:Fr F w0 w) {T:TypeId} {x y:Operand} (ho:o.op = .store T x y)
    {c:Bool} {rd:Nat} {wr:List (Nat×S)} (h:vpre P Φ o st = .eff c rd wr) (hc0:c=true):ORun P F M0 w0 o a w (app wr st):=by
  simp only [vpre,ho] at h
  have hxx:=opnd_ok hg x
  split at h
  . rename_i hm kk u0 i0 ex
    split at h
    rotate_left
    . cases h
    rename_i hdl
    have hd:o.dst=none:=by cases hh:o.dst with
      | none=>rfl
      | some d=>rw [hh] at hdl;cases hdl
    split at h
    rotate_left
    . cases h
    rename_i ht
    split at h
    rotate_left
    . cases h
    rename_i yy ey
    split at h
    rotate_left
    . cases h
    rename_i hyu
    subst hyu
    split at h
    rotate_left
    . cases h
    rename_i v hv
    simp only [Pre.eff.injEq] at h
    obtain ⟨hcc,_,rfl⟩:=h
    rw [hc0] at hcc
    have hi:i0<yy.2.length:=of_decide_eq_true hcc
    rw [ex] at hxx
    obtain ⟨us,q1,q2⟩:=as_ok (opnd_ok hg y) hv
    obtain ⟨g,cells,T',p1,p2,p3,p4,p5⟩:=hg.setarr ey hi q2
    have hxv:=p1 _ hxx
    have hl:=RepC.length _ _ _ q2
    have hrun:=run_storeVar (P:=P) ht (o:=i0 * yy.1.size) (v:=a.eval y) (by rw [q1,toVal_cells q2];simpa using hl) p2 p3 (by rw [q1,toVal_cells q2];simpa using fun u hu=>(RepC.one _ _ _ q2 u hu).1)
    have hcv:(a.eval y).cells.toList=us:=by rw [q1,toVal_cells q2]
    rw [hcv] at hrun
    refine ⟨undef,w.setRow g (cells.toList.take (i0 * yy.1.size)++us++cells.toList.drop (i0 * yy.1.size+yy.1.size)).toArray,.inr ⟨?_,rfl⟩,hb.but (g:=g) (by assumption) rfl rfl rfl (by simp) (fun k hk=>setRow_other w g k _ hk),M,?_⟩
    . simp only [execOp,ho,hxv,Instr.storeAt,Instr.sureAddr,Sem.run_bind,Sem.run_pure,Result.andThen_ok]
      rw [hrun]
      rfl
    . rw [hd]
      exact p5
  split at h
  rotate_left
  . cases h
  rename_i hm off hdl hpl
  have hd:o.dst=none:=by cases hh:o.dst with
    | none=>rfl
    | some d=>rw [hh] at hdl;cases hdl
  split at h
  rotate_left
  . cases h
  rename_i cs hc
  obtain ⟨b,cs',e1,htm,hx⟩:=place_ok hg hpl
  rw [hc] at e1;cases e1
  have hy:=opnd_ok hg y
  split at h
  rotate_left
  . cases h
  rename_i t ht
  split at h
  . rename_i e ey
    rw [ey] at hy
    have hy:a.eval y = .slice none 0 0:=hy
    split at h
    rotate_left
    . cases h
    rename_i hlt
    simp only [Pre.eff.injEq] at h
    obtain ⟨_,_,rfl⟩:=h
    exact storeL_core hg hb ho hd ht hc htm hx (c:=C.own e [] true) ⟨_,_,_,hy⟩ ⟨by rw [hy];exact RepC.list_nil e,.inl ⟨hy,rfl⟩⟩ hlt (fun _ _=>⟨fun h=>(by cases h),fun h=>(by cases h)⟩)
      (fun g _ hgb=>by rw [hy] at hgb;simp [ownB] at hgb)
  . rename_i e u xs hh ey
    cases y with
    | tmp h' =>
      dsimp only at h
      split at h
      rotate_left
      . cases h
      rename_i hcnd
      obtain ⟨rfl,hne,hlt⟩:=hcnd
      simp only [Pre.eff.injEq] at h
      obtain ⟨_,_,rfl⟩:=h
      have hgy:get st h' = .own e xs hh:=ey
      rw [ey] at hy
      obtain ⟨hd1,hd2⟩:=hg.demote hgy hy.1
      have hc':get (st.set h' (.d (.list e) xs)) hm = .box cs:=by rw [get_set_ne st _ (Ne.symm hne)];exact hc
      exact storeL_core hd1 hb ho hd ht hc' htm hx (c:=C.own e xs true) (rep_slice hy.1) ⟨hy.1,hy.2⟩ hlt (fun _ _=>⟨fun h=>(by cases h),fun h=>(by cases h)⟩)
        (fun g _ hgb=>⟨hg.new h' none g ⟨by rw [hgy];rfl,hgb⟩,hd2 g hgb⟩)
    | _=>cases h
  . rename_i e u xs hh ey
    cases y with
    | tmp h' =>
      dsimp only at h
      split at h
      rotate_left
      . cases h
      rename_i hcnd
      obtain ⟨rfl,hne,hlt⟩:=hcnd
      simp only [Pre.eff.injEq] at h
      obtain ⟨_,_,rfl⟩:=h
      have hgy:get st h' = .arr e xs hh:=ey
      rw [ey] at hy
      obtain ⟨hd1,hd2⟩:=hg.forget hgy
      have hc':get (st.set h' .und) hm = .box cs:=by rw [get_set_ne st _ (Ne.symm hne)];exact hc
      have hsl:∃ p n c,a.eval (.tmp h') = .slice p n c:=by
        rcases hy with ⟨e1,_⟩|⟨g,cap,cells,T',e1,_⟩
        . exact ⟨_,_,_,e1⟩
        . exact ⟨_,_,_,e1⟩
      exact storeL_core hd1 hb ho hd ht hc' htm hx (c:=C.arr e xs true) hsl hy hlt (fun _ _=>⟨fun h=>(by cases h),fun h=>(by cases h)⟩) (fun g _ hgb=>hd2 g hgb)
    | _=>cases h
  . rename_i e h' u xs ey
    rw [ey] at hy
    split at h
    . rename_i u' xs' hgy
      split at h
      rotate_left
      . cases h
      rename_i hcnd
      obtain ⟨rfl,rfl,hne,hlt⟩:=hcnd
      simp only [Pre.eff.injEq] at h
      obtain ⟨_,_,rfl⟩:=h
      have heq:tm a h'=a.eval y:=hy.2 _ _ hgy
      have hsl:=hg.slot h'
      rw [hgy,heq] at hsl
      obtain ⟨hd1,hd2⟩:=hg.demote hgy (by rw [heq];exact hy.1)
      have hlen:xs'.length=xs.length:=by
        obtain ⟨p1,c1,q1,_⟩:=hsl.1
        obtain ⟨p2,c2,q2,_⟩:=hy.1
        rw [q1] at q2
        simp only [List.cons.injEq,Value.slice.injEq,and_true] at q2
        exact q2.2.1
      have hc':get (st.set h' (.d (.list u') xs)) hm = .box cs:=by rw [get_set_ne st _ (Ne.symm hne)];exact hc
      exact storeL_core hd1 hb ho hd ht hc' htm hx (c:=C.own u' xs true) (rep_slice hy.1) ⟨hy.1,by rw [<- hlen];exact hsl.2⟩ hlt (fun _ _=>⟨fun h=>(by cases h),fun h=>(by cases h)⟩)
        (fun g _ hgb=>⟨hg.new h' none g ⟨by rw [hgy];rfl,by rw [heq];exact hgb⟩,hd2 g (by rw [heq];exact hgb)⟩)
    . split at h
      rotate_left
      . cases h
      rename_i hcnd
      obtain ⟨rfl,hlt⟩:=hcnd
      simp only [Pre.eff.injEq] at h
      obtain ⟨_,_,rfl⟩:=h
      exact storeL_core hg hb ho hd ht hc htm hx (c:=C.d (.list e) xs) (rep_slice hy.1) hy.1 hlt (fun _ _=>⟨fun h=>(by cases h),fun h=>(by cases h)⟩) (fun _ h=>by cases h)
  . split at h
    rotate_left
    . cases h
    rename_i v hv
    split at h
    rotate_left
    . cases h
    rename_i hfit
    simp only [Pre.eff.injEq] at h
    obtain ⟨_,_,rfl⟩:=h
    obtain ⟨us,e1,e2⟩:=as_ok hy hv
    obtain ⟨k1,k2⟩:=cellsOf_ok _ us v e2
    have hl:=RepC.length _ _ _ e2
    have hno:∀ (k:Nat) c0,(cellsOf _ v)[k]? = some c0->ownC c0=false:=fun k c0 e=>by
      cases c0 with
      | own u ys hh=>exact absurd e (k2 _ _ _ _)
      | arr u ys hh=>exact absurd e (cellsOf_noarr _ _ _ _ _ _)
      | _=>rfl
    exact store_core hg hb ho hd ht hc htm hx (by rw [e1];exact toVal_cells e2) hl (by rw [<- hl];exact ((cellsOK_iff _ _).1 k1).1.symm) k1 (fun u hu=>(RepC.one _ _ _ e2 u hu).1) hfit
      (fun k u ys=>⟨k2 k u ys false,cellsOf_noarr _ v k u ys false⟩) (fun k c0 v g e e0=>absurd e0 (by rw [hno k c0 e];simp)) (.inl hno)
theorem op_index (hg:Good M0 F M st a w) (hb:Fr F w0 w) (hnb:NoBox st o) {T:TypeId} {x i:Operand} (ho:o.op = .index T x i)
    {c:Bool} {rd:Nat} {wr:List (Nat×S)} (h:vpre P Φ o st = .eff c rd wr) (hc:c=true):ORun P F M0 w0 o a w (app wr st):=by
  simp only [vpre,ho] at h
  split at h
  . rename_i hu
    split at h
    . rename_i xs n e1 e2
      obtain ⟨k,hk⟩:=idx_int hg e2
      exact idxStr_core hg hb hnb ho hu (repV_str (slot_d hg e1)) hk h hc
    . cases h
  . split at h
    . split at h<;>cases h
    . cases h
  . cases h
theorem op_builtin (hg:Good M0 F M st a w) (hb:Fr F w0 w) (hnb:NoBox st o) {cl:Call} (ho:o.op = .call cl) {bn:Builtin} (h1:cl.callee = .builtin bn) {rd0:Nat} {mk:Bool}
    {c:Bool} {rd:Nat} {wr:List (Nat×S)} (h:preBuiltin P mk o.dst.toList st rd0 bn cl.argTypes.toList cl.args.toList = .eff c rd wr) (hc:c=true):ORun P F M0 w0 o a w (app wr st):=by
  unfold preBuiltin at h
  have arr:∀ {α:Type} (xs:Array α) (l:List α),xs.toList=l->xs=l.toArray:=fun xs l e=>by rw [<- e]
  split at h
  . rename_i T Ts x e1 e2
    exact op_len hg hb hnb ho h1 (arr _ _ e1) (arr _ _ e2) h
  . rename_i T T' x y e1 e2
    split at h
    rotate_left
    . cases h
    rename_i hTT
    subst hTT
    exact op_append hg hb hnb ho h1 (arr _ _ e1) (arr _ _ e2) h hc
  . rename_i x y _ e2
    split at h
    . rename_i k m k' n g1 g2
      exact op_minmax (mx:=false) hg hb hnb ho h1 (arr _ _ e2) (repV_int (slot_d hg g1)) (repV_int (slot_d hg g2)) h
    . cases h
  . rename_i x y _ e2
    split at h
    . rename_i k m k' n g1 g2
      exact op_minmax (mx:=true) hg hb hnb ho h1 (arr _ _ e2) (repV_int (slot_d hg g1)) (repV_int (slot_d hg g2)) h
    . cases h
  . cases h
theorem fs0 {c:Bool} {rd:Nat} {wr:List (Nat×S)} (g:Nat) (ss:List S) (rd0:Nat) (l:List Spec):findSpec g ss rd0 l ≠ .eff c rd wr:=by
  induction l with
  | nil=>simp [findSpec]
  | cons sp sps ih =>
    unfold findSpec
    split
    . split
      . simp
      . exact ih
    . exact ih
theorem op_eff (hg:Good M0 F M st a w) (hb:Fr F w0 w) (hnb:NoBox st o)
    {c:Bool} {rd:Nat} {wr:List (Nat×S)} (h:vpre P Φ o st = .eff c rd wr) (hc:c=true):ORun P F M0 w0 o a w (app wr st):=by
  cases ho:o.op with
  | move x=>exact op_move hg hb hnb ho h
  | assign x=>exact op_assign hg hb hnb ho h
  | pick c0 x y=>exact op_pick hg hb hnb ho h hc
  | alloc T=>exact op_alloc hg hb hnb ho h
  | box T x=>exact op_box hg hb hnb ho h
  | build T ps=>exact op_build hg hb hnb ho h
  | buildSlice T n ps=>exact op_buildSlice hg hb hnb ho h
  | load T x=>exact op_load hg hb hnb ho h hc
  | store T x y=>exact op_store hg hb ho h hc
  | nilCheck x=>exact op_nilCheck hg hb hnb ho h
  | binOp op T x y T'=>exact op_bin hg hb hnb ho (fun p q u v hu hv hp=>op_binAgg hg hb hnb ho hu hv hp) h hc
  | unOp op T x=>exact op_unOp hg hb hnb ho h
  | convert s t x=>exact op_convert hg hb hnb ho h
  | makeInterface T x=>exact op_makeInterface hg hb hnb ho h
  | makeFunc fn firsts captured=>exact op_makeFunc hg hb hnb ho h
  | makeMap T r=>cases r with
    | none=>exact op_makeMap hg hb hnb ho h
    | some r=>simp [vpre,ho] at h
  | slice T x lo hi mx=>exact op_slice hg hb hnb ho h hc
  | fieldAddr T x f=>exact op_fieldAddr hg hb hnb ho h
  | field T x f=>exact op_field hg hb hnb ho h
  | indexAddr T x i=>exact op_indexAddr hg hb hnb ho h hc
  | index T x i=>exact op_index hg hb hnb ho h hc
  | extract t i=>exact op_extract hg hb hnb ho h hc
  | range T x=>exact op_range hg hb hnb ho h
  | next x isS=>exact op_next hg hb hnb ho h
  | typeAssert x xT aT ok=>exact op_assert hg hb hnb ho h
  | makeSlice T n cp=>exact op_makeSlice hg hb hnb ho h hc
  | call cl =>
    simp only [vpre,ho,preCall] at h
    have inv:∀ (rd0:Nat) (nm:String) (s:S) (l:List Operand),preInvoke P Φ st rd0 nm s l ≠ .eff c rd wr:=by
      intro rd0 nm s l h
      unfold preInvoke at h
      repeat' split at h
      all_goals first|cases h|exact fs0 _ _ _ _ h
    split at h
    . rename_i bn e
      exact op_builtin hg hb hnb ho e h hc
    . exfalso
      have fs:∀ (g:Nat) (ss:List S) (rd0:Nat) (l:List Spec),findSpec g ss rd0 l ≠ .eff c rd wr:=by
        intro g ss rd0 l
        induction l with
        | nil=>simp [findSpec]
        | cons sp sps ih =>
          unfold findSpec
          split
          . split
            . simp
            . exact ih
          . exact ih
      unfold preClo at h
      repeat' split at h
      all_goals first|cases h|exact fs _ _ _ _ h
    . exact absurd h (inv _ _ _ _)
  | panic x =>
    simp only [vpre,ho] at h
    repeat' split at h
    all_goals cases h
  | _=>simp [vpre,ho] at h
end
end Go.V
