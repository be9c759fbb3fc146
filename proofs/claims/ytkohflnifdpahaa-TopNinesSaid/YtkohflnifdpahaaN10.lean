/- A part of the proof of TopNinesSaid: no condition beyond what each theorem says. -/
import Derived.Test.YtkohflnifdpahaaN09
import Derived.Test.YtkohflnifdpahaaRows
import Derived.WalkKit
import Derived.ProofKit
import Derived.OpenShut
import Derived.Deep.Slices
import Derived.ChangeMaps5
import Derived.Carry
import Derived.Test.YtkohflnifdpahaaN08
set_option linter.all false
namespace Go.V
open Go.Proofs Go.Proofs.Ytkohflnifdpahaa Go.ChangeShapes Go.WideShapes Go.ChangeAt Go.RowKit
def M0:Mut:=fun _ _=>False
def Fit (P:Program):Ty->(TypeId->Prop)×(List Field->Nat->Prop)
  | .int k=>(fun t=>P.underlying t=some (.int k),fun _ _=>False)
  | .bool=>(fun t=>P.underlying t=some .bool,fun _ _=>False)
  | .str=>(fun t=>P.underlying t=some .string,fun _ _=>False)
  | .list e=>(fun t=>∃ u,P.underlying t=some (.slice u)/\P.cellsOf u=e.size/\0<e.size/\(Fit P e).1 u,fun _ _=>False)
  | .unit=>(fun _=>False,fun fs _=>fs=[])
  | .prod a b =>
    (fun t=>∃ fs:Array Field,P.underlying t=some (.struct fs)/\P.cellsOf t=a.size+b.size/\∃ f rest,fs.toList=f :: rest/\f.offset=0/\P.cellsOf f.type=a.size/\(Fit P a).1 f.type/\(Fit P b).2 rest a.size,
     fun fs n=>∃ f rest,fs=f :: rest/\f.offset=n/\P.cellsOf f.type=a.size/\(Fit P a).1 f.type/\(Fit P b).2 rest (n+a.size))
  | _=>(fun _=>False,fun _ _=>False)
instance (t:Ty):Inhabited t.den:=⟨t.zero⟩
section
variable {H : Type} {enc : TypeId × Value → H} {P : Program} {w : World} {base : Nat} {sp : Nat → Bool} {held : Bool}
theorem rowOf {a b:Ty} (ha:∀ (tid:TypeId) (fuel:Nat) (cs:List Value) (x:DataW H×List MemPlace),(Fit P a).1 tid->DataW.trod enc P w base sp held fuel tid cs=some x->∃ y:a.den,RepC M0 w a cs y)
    (hb:∀ (fs:List Field) (n:Nat) (cs:List Value) (xs:List (DataW H×List MemPlace)) (fuel:Nat),(Fit P b).2 fs n->(fs.mapM fun f:Field=>DataW.trod enc P w base sp held fuel f.type ((cs.drop f.offset).take (P.cellsOf f.type)))=some xs->cs.length=n+b.size->∃ y:b.den,RepC M0 w b (cs.drop n) y)
    {f:Field} {rest:List Field} {n fuel:Nat} {cs:List Value} {xs:List (DataW H×List MemPlace)}
    (h1:f.offset=n) (h2:P.cellsOf f.type=a.size) (h3:(Fit P a).1 f.type) (h4:(Fit P b).2 rest (n+a.size))
    (h:((f :: rest).mapM fun f:Field=>DataW.trod enc P w base sp held fuel f.type ((cs.drop f.offset).take (P.cellsOf f.type)))=some xs) (hl:cs.length=n+(a.size+b.size)) :
    ∃ y:(Ty.prod a b).den,RepC M0 w (.prod a b) (cs.drop n) y:=by
  rw [List.mapM_cons] at h
  obtain ⟨x,hx,h'⟩:=Option.bind_eq_some_iff.1 h
  obtain ⟨xs',hxs,_⟩:=Option.bind_eq_some_iff.1 h'
  obtain ⟨y1,r1⟩:=ha _ _ _ _ h3 hx
  obtain ⟨y2,r2⟩:=hb _ _ cs _ _ h4 hxs (by omega)
  rw [h1,h2] at r1
  refine ⟨(y1,y2),_,_,?_,r1,r2⟩
  rw [<- List.drop_drop,List.take_append_drop]
theorem opens:∀ t:Ty,
    (∀ (tid:TypeId) (fuel:Nat) (cs:List Value) (x:DataW H×List MemPlace),(Fit P t).1 tid->DataW.trod enc P w base sp held fuel tid cs=some x->∃ y:t.den,RepC M0 w t cs y) /\
    (∀ (fs:List Field) (n:Nat) (cs:List Value) (xs:List (DataW H×List MemPlace)) (fuel:Nat),(Fit P t).2 fs n->(fs.mapM fun f:Field=>DataW.trod enc P w base sp held fuel f.type ((cs.drop f.offset).take (P.cellsOf f.type)))=some xs->cs.length=n+t.size->∃ y:t.den,RepC M0 w t (cs.drop n) y)
  | .int k=>⟨fun tid fuel cs x hf h=>by
      obtain ⟨n,e,_⟩:=DataW.trod_int (k:=k) hf h
      exact ⟨n,e⟩,fun _ _ _ _ _ hf=>hf.elim⟩
  | .bool=>⟨fun tid fuel cs x hf h=>by
      obtain ⟨b,e,_⟩:=DataW.trod_bool hf h
      exact ⟨b,e⟩,fun _ _ _ _ _ hf=>hf.elim⟩
  | .str=>⟨fun tid fuel cs x hf h=>by
      obtain ⟨s,e,_⟩:=DataW.trod_string hf h
      exact ⟨s.data.toList,e⟩,fun _ _ _ _ _ hf=>hf.elim⟩
  | .list e=>⟨fun tid fuel cs x hf h=>by
      obtain ⟨u,hu,hc,hpos,hfe⟩:=hf
      rcases Deep.open_slice hu h with ⟨rfl,_⟩|⟨a,len,cap,m,n,D,Pl,rfl,_,hle,_,hm,_,hx⟩
      . exact ⟨[],none,0,rfl,Nat.le_refl _,fun i hi=>absurd hi (Nat.not_lt_zero _)⟩
      . have hlm:len<=m:=by rw [hm];split<;>omega
        obtain ⟨Y,hY⟩:=Deep.choose_lt (α:=e.den) (n:=len) (p:=fun i y=>∃ b o ec,some a=some (⟨b,o,none⟩:Addr)/\ec.length=e.size/\CellsAt M0 w b (o+i * e.size) ec/\RepC M0 w e ec y) fun i hi=>by
          obtain ⟨cs',c1,c2⟩:=hx i (by omega)
          obtain ⟨y,hy⟩:=(opens e).1 _ _ _ _ hfe c2
          obtain ⟨_,l1,l2⟩:=World.cells?_some c1
          rw [hc] at l1 l2
          have hsp:a.spot=none:=by
            obtain ⟨cs0,c10,_⟩:=hx 0 (by omega)
            obtain ⟨_,l10,l20⟩:=World.cells?_some c10
            have q:=l20 0 (by omega)
            rw [Nat.zero_mul] at q
            have hs:w.cell? a=cs0[0]? := q
            rw [List.getElem?_eq_getElem (by omega)] at hs
            unfold World.cell? at hs
            split at hs
            . split at hs
              . cases hs
              . next hn =>
                cases hh:a.spot with
                | none=>rfl
                | some _=>exact absurd (by rw [hh];rfl) hn
            . cases hs
          obtain ⟨ab,ao,asp⟩:=a
          cases hsp
          refine ⟨y,ab,ao,cs',rfl,l1,fun j hj=>⟨?_,fun h=>h⟩,hy⟩
          have q:=l2 j (by omega)
          rw [List.getElem?_eq_getElem hj] at q
          rw [<- q]
          congr 1
          unfold Addr.add
          by_cases h1:i * e.size=0<;>by_cases h2:j=0<;>simp [h1,h2,Nat.add_assoc]
        refine ⟨(List.range len).map Y,some a,cap,by simp,by simpa using hle,fun i hi=>?_⟩
        have hi':i<len:=by simpa using hi
        obtain ⟨b,o,ec,q1,q2,q3,q4⟩:=hY i hi'
        exact ⟨b,o,ec,q1,q2,q3,by simpa using q4⟩,fun _ _ _ _ _ hf=>hf.elim⟩
  | .unit=>⟨fun _ _ _ _ hf=>hf.elim,fun fs n cs xs fuel hf h hl=>⟨(),by
      have:cs.drop n=[]:=List.drop_eq_nil_of_le (by simp [Ty.size] at hl;omega)
      exact this⟩⟩
  | .prod a b=>⟨fun tid fuel cs x hf h=>by
      obtain ⟨fs,hu,hc,f,rest,e1,e2,e3,e4,e5⟩:=hf
      obtain ⟨xs,n,hlen,hm⟩:∃ xs n,cs.length=P.cellsOf tid/\(fs.toList.mapM fun f:Field=>DataW.trod enc P w base sp held n f.type ((cs.drop f.offset).take (P.cellsOf f.type)))=some xs:=by
        cases fuel with
        | zero=>simp [DataW.trod] at h
        | succ n =>
          simp only [DataW.trod,hu] at h
          split at h
          . next hl =>
            obtain ⟨xs,hx,_⟩:=Option.map_eq_some_iff.1 h
            exact ⟨xs,n,hl,hx⟩
          . cases h
      rw [e1] at hm
      have:=rowOf (n:=0) (opens a).1 (opens b).2 e2 e3 e4 (by rw [Nat.zero_add];exact e5) hm (by rw [hlen,hc];omega)
      simpa using this,
    fun fs n cs xs fuel hf h hl=>by
      obtain ⟨f,rest,rfl,e2,e3,e4,e5⟩:=hf
      exact rowOf (opens a).1 (opens b).2 e2 e3 e4 e5 h (by rw [hl];rfl)⟩
  | .raw=>⟨fun _ _ _ _ hf=>hf.elim,fun _ _ _ _ _ hf=>hf.elim⟩
  | .opq=>⟨fun _ _ _ _ hf=>hf.elim,fun _ _ _ _ _ hf=>hf.elim⟩
  | .dyn _ _=>⟨fun _ _ _ _ hf=>hf.elim,fun _ _ _ _ _ hf=>hf.elim⟩
  | .ptr _=>⟨fun _ _ _ _ hf=>hf.elim,fun _ _ _ _ _ hf=>hf.elim⟩
  | .clo _ _ _=>⟨fun _ _ _ _ hf=>hf.elim,fun _ _ _ _ _ hf=>hf.elim⟩
theorem open_arg {t:Ty} {tid:TypeId} {r:Reach} {b0:Nat} {v:Value} {d:DataW H} {ps:List MemPlace} (hf:(Fit P t).1 tid) (hval:Value.okWide P w r b0 tid v) (h:DataW.Trod enc P w base sp held tid v d ps) :
    ∃ y:t.den,RepV M0 w t v y:=by
  obtain ⟨fuel,h⟩:=h
  obtain ⟨y,hy⟩:=(opens t).1 _ _ _ _ hf h
  refine ⟨y,v.cells.toList,?_,hy⟩
  cases t with
  | int k=>obtain ⟨n,rfl⟩:=okWide_int (k:=k) hf hval;rfl
  | bool=>obtain ⟨n,rfl⟩:=okWide_bool hf hval;rfl
  | str=>obtain ⟨n,rfl⟩:=okWide_string hf hval;rfl
  | list e=>obtain ⟨u,hu,_⟩:=hf;obtain ⟨a,l,c,rfl⟩:=okWide_slice hu hval;rfl
  | prod a b=>obtain ⟨fs,hu,_⟩:=hf;obtain ⟨cs,rfl,_⟩:=okWide_struct hu hval;rfl
  | unit=>exact hf.elim
  | raw=>exact hf.elim
  | opq=>exact hf.elim
  | dyn _ _=>exact hf.elim
  | ptr _=>exact hf.elim
  | clo _ _ _=>exact hf.elim
def FitAll (P:Program):Ty->List TypeId->Prop
  | .unit,ts=>ts=[]
  | .prod a b,ts=>∃ t rest,ts=t :: rest/\(Fit P a).1 t/\FitAll P b rest
  | _,_=>False
theorem open_all {r:Reach} {b0:Nat}:∀ (t:Ty) (ts:List TypeId) (vs:List Value) (ds:List (DataW H)) (ps:List MemPlace),FitAll P t ts ->
    (∀ (j:Nat) t v,ts[j]? = some t->vs[j]? = some v->Value.okWide P w r b0 t v)->DataW.TrodAll enc P w base sp held ts vs ds ps->∃ x:t.den,RepT M0 w t vs x
  | .unit,ts,vs,ds,ps,hf,_,h=>by
    obtain rfl:ts=[]:=hf
    obtain ⟨rfl,_⟩:=trodAll_nil h
    exact ⟨(),rfl⟩
  | .prod a b,ts,vs,ds,ps,hf,hv,h=>by
    obtain ⟨t,rest,rfl,h1,h2⟩:=hf
    obtain ⟨v,vs',d,ds',p,q,rfl,rfl,rfl,hd,hrest⟩:=trodAll_cons h
    obtain ⟨y,hy⟩:=open_arg h1 (hv 0 t v rfl rfl) hd
    obtain ⟨z,hz⟩:=open_all b rest vs' ds' q h2 (fun j t v e1 e2=>hv (j+1) t v (by simpa using e1) (by simpa using e2)) hrest
    exact ⟨(y,z),v,vs',rfl,hy,hz⟩
  | .int _,_,_,_,_,hf,_,_=>hf.elim
  | .bool,_,_,_,_,hf,_,_=>hf.elim
  | .str,_,_,_,_,hf,_,_=>hf.elim
  | .list _,_,_,_,_,hf,_,_=>hf.elim
  | .raw,_,_,_,_,hf,_,_=>hf.elim
  | .opq,_,_,_,_,hf,_,_=>hf.elim
  | .dyn _ _,_,_,_,_,hf,_,_=>hf.elim
  | .ptr _,_,_,_,_,hf,_,_=>hf.elim
  | .clo _ _ _,_,_,_,_,hf,_,_=>hf.elim
end
theorem all_behind {H:Type} {enc:TypeId×Value->H} {P:Program} {W W':World} (hl:laidOutB P=true) (hb:Below W.heap.size W W') :
    ∀ (ts:List TypeId) (vs:List Value) (ds:List (DataW H)) (ps:List MemPlace),ts.all (fun t=>P.readableRec t && decide (t<P.types.size))=true ->
      DataW.TrodAll enc P W 0 (fun _=>true) true ts vs ds ps->(∀ x∈ps,x.block<W.heap.size)->DataW.TrodAll enc P W' 0 (fun b=>decide (b<W.heap.size)) true ts vs ds ps
  | [],vs,ds,ps,_,h,_=>by
    obtain ⟨rfl,rfl,rfl⟩:=trodAll_nil h
    exact trodAll_mk0
  | t :: ts,vs,ds,ps,ht,h,hlt=>by
    obtain ⟨v,vs',d,ds',p,q,rfl,rfl,rfl,hd,hrest⟩:=trodAll_cons h
    rw [List.all_cons,Bool.and_eq_true,Bool.and_eq_true,decide_eq_true_eq] at ht
    exact trodAll_cons_mk (Below.trod hl ht.1.1 ht.1.2 hd hb fun x hx=>hlt x (List.mem_append.2 (.inl hx)))
      (all_behind hl hb ts vs' ds' q ht.2 hrest fun x hx=>hlt x (List.mem_append.2 (.inr hx)))
theorem says {f:Nat} {t:Ty} {F:t.den->Out Bool} (c:Contract Try.prog ⟨f,.call,t,.bool,false,false,F⟩) {x:t.den} (hx:F x = .ret true) {M:Mut} {W:World} {vs:Array Value} (hI:Inv.I Try.prog W) (hr:RepT M W t vs.toList x) (hlt:∀ b o,M b o->b<W.heap.size) :
    Calls Try.prog f vs W fun e W'=>e = .returned (.bool true)/\Below W.heap.size W W':=by
  have h:=c x M W vs hI hr hlt
  dsimp only at h
  rw [hx] at h
  refine h.mono ?_
  rintro e W' ⟨v,rfl,hb,hres⟩
  refine ⟨?_,hb⟩
  obtain ⟨M',_,_,hs,_⟩:=hres
  have hs':RepV M' W' .bool v true:=hs
  obtain ⟨cs,e1,e2⟩:=hs'
  have e3:cs=[.bool true]:=e2
  subst e3
  rw [e1];rfl
theorem own0:ownKnob Try.prog.godebug=none:=by kernel_rfl
theorem fitI:(Fit Try.prog (.int .i64)).1 3:=Try.underlying3
end Go.V
namespace Go.V
abbrev Hand:=St->Option St
section
variable {ρ : Type} (P : Program) (Φ : Nat → List Spec)
end
section
variable {P : Program} [Inv P] {Φ : Nat → List Spec} {ρ : Type}
def HandOK (P:Program) [Inv P] (ops:Array Oper) (i c:Nat) (g:Hand):Prop :=
  ∀ (F:Nat->Prop) (M0:Base) (w0:World) (n:Nat),(∀ w,Fr F w0 w->Inv.I P w)->(∀ j v,M0.pin j=some v->False) ->
    ∀ (Q:Exit->Act->World->Prop) (rest:List Nat) st a w st',Conc F M0 w0 st a w->g st=some st'->(∀ a' w',Conc F M0 w0 st' a' w'->wpOpsIn (fen none) n P ops Q rest a' w') ->
      wpOpsIn (fen none) n P ops Q (List.range' i (c+1)++rest) a w
end
end Go.V
namespace Go.V
open Go.Proofs
open Go.RowKit (Below)
section
variable {P : Program} [Inv P] {n : Nat} {ops : Array Oper} {Q : Exit → Act → World → Prop} {i : Nat} {o : Oper} {a : Act} {w w' : World} {K : Act → World → Prop}
theorem opn_value (hi:ops[i]? = some o) (hw:Region.wanted o (yielded ops a.tmps)=true) (hd:∀ c,o.op ≠ .defer c) {v:Value} (hr:(execOp a.eval o).run P w = .ok (.value v) w') (hK:K (a.put o.dst v) w'):wpOpIn (fen none) n P ops Q i K a w:=by
  unfold wpOpIn
  simp only [hi]
  rw [hw,if_pos rfl]
  refine ⟨fun f _=>fen_fn none f,?_⟩
  rw [Oper.semAt_eq _ _ _ fun c e=>absurd e (hd c),hr]
  exact hK
theorem opn_enter (hi:ops[i]? = some o) (hw:Region.wanted o (yielded ops a.tmps)=true) (hd:∀ c,o.op ≠ .defer c) {f:FuncId} {args:Array Value} (hr:(execOp a.eval o).run P w = .ok (.enter f args) w')
    (hK:Calls P f args w' fun e w2=>∃ v,e = .returned v/\K (a.put o.dst v) w2):wpOpIn (fen none) n P ops Q i K a w:=by
  unfold wpOpIn
  simp only [hi]
  rw [hw,if_pos rfl]
  refine ⟨fun f _=>fen_fn none f,?_⟩
  rw [Oper.semAt_eq _ _ _ fun c e=>absurd e (hd c),hr]
  refine ⟨fun hd=>(by rw [fen_depth] at hd;cases hd),calls_fen (hK.mono ?_)⟩
  rintro e w2 ⟨v,rfl,h⟩
  exact h
theorem wanted_none (h:o.guard=none):Region.wanted o (yielded ops a.tmps)=true:=by unfold Region.wanted;rw [h]
theorem wanted_some {j t:Nat} {want b:Bool} (h:o.guard=some (j,want)) (ht:(ops[j]?).bind (·.dst)=some t) (hlt:t<a.tmps.size) (hv:tm a t = .bool b):Region.wanted o (yielded ops a.tmps)=(b==want):=by
  unfold Region.wanted
  rw [h]
  have hy:yielded ops a.tmps j=some b:=by
    unfold yielded
    rw [ht]
    have:a.tmps[t]? = some (.bool b):=by
      rw [<- hv]
      simp [tm,hlt]
    simp only [Option.bind_some,this]
  dsimp only
  rw [hy]
  cases b<;>cases want<;>rfl
theorem tm_put_same {d:Nat} {v:Value} (h:d<a.tmps.size):tm (a.put (some d) v) d=v:=by
  simp [tm,Act.put,h]
theorem tm_put_other {d j:Nat} {v:Value} (h:j≠d):tm (a.put (some d) v) j=tm a j:=by
  simp [tm,Act.put,Array.getElem?_setIfInBounds,Ne.symm h]
theorem size_put {d:Nat} {v:Value}:(a.put (some d) v).tmps.size=a.tmps.size:=by simp [Act.put]
theorem defers_put {d:Nat} {v:Value}:(a.put (some d) v).defers=a.defers:=by simp [Act.put]
end
noncomputable def findRegion (id:Nat):Code->Option (Array Oper)
  | .region k ops _=>bif k==id then some ops else none
  | .seq a b=>(match findRegion id a with|some c=>some c|none=>findRegion id b)
  | .block _ b=>findRegion id b
  | .scope b=>findRegion id b
  | .cond _ a b=>(match findRegion id a with|some c=>some c|none=>findRegion id b)
  | .loop b=>findRegion id b
  | _=>none
def opInfo (o:Oper):Option Tmp×Op×Option (Nat×Bool):=(o.dst,o.op,o.guard)
theorem ex_move {a:Act} {w:World} {o:Oper} {j:Nat} (ho:o.op = .move (.tmp j)):(execOp a.eval o).run Try.prog w = .ok (.value (tm a j)) w:=by
  simp [execOp,ho,Act.eval]
theorem ex_assign {a:Act} {w:World} {o:Oper} {j:Nat} (ho:o.op = .assign (.tmp j)):(execOp a.eval o).run Try.prog w = .ok (.value (tm a j)) w:=by
  simp [execOp,ho,Act.eval]
theorem opn_skipped {P:Program} [Inv P] {n:Nat} {ops:Array Oper} {Q:Exit->Act->World->Prop} {i:Nat} {o:Oper} {a:Act} {w w':World} {K:Act->World->Prop} (hi:ops[i]? = some o) (hw:Region.wanted o (yielded ops a.tmps)=true) (hd:∀ c,o.op ≠ .defer c)
    (hr:(execOp a.eval o).run P w = .ok .skip w') (hK:K (a.put o.dst undef) w'):wpOpIn (fen none) n P ops Q i K a w:=by
  unfold wpOpIn
  simp only [hi]
  rw [hw,if_pos rfl]
  refine ⟨fun f _=>fen_fn none f,?_⟩
  rw [Oper.semAt_eq _ _ _ fun c e=>absurd e (hd c),hr]
  exact hK
theorem opn_enter_pan {P:Program} [Inv P] {n:Nat} {ops:Array Oper} {Q:Exit->Act->World->Prop} {i:Nat} {o:Oper} {a:Act} {w w':World} {K:Act->World->Prop} (hi:ops[i]? = some o) (hw:Region.wanted o (yielded ops a.tmps)=true) (hd:∀ c,o.op ≠ .defer c) {f:FuncId} {args:Array Value} (hr:(execOp a.eval o).run P w = .ok (.enter f args) w')
    (hK:Calls P f args w' fun e w2=>∃ c,e = .panicked c/\Q (.panic c) a w2):wpOpIn (fen none) n P ops Q i K a w:=by
  unfold wpOpIn
  simp only [hi]
  rw [hw,if_pos rfl]
  refine ⟨fun f _=>fen_fn none f,?_⟩
  rw [Oper.semAt_eq _ _ _ fun c e=>absurd e (hd c),hr]
  refine ⟨fun hd=>(by rw [fen_depth] at hd;cases hd),calls_fen (hK.mono ?_)⟩
  rintro e w2 ⟨c,rfl,h⟩
  exact h
theorem get_setne {st:St} {i j:Nat} {s:S} (h:i≠j):get (st.set j s) i=get st i:=by
  unfold get
  rw [List.getD_eq_getElem?_getD,List.getD_eq_getElem?_getD,List.getElem?_set_ne (Ne.symm h)]
theorem put_und {M0:Base} {F:Nat->Prop} {M:Mut} {st:St} {a:Act} {w:World} (hg:Good M0 F M st a w) {d:Nat} (hb:isBox (get st d)=false) (v:Value):Good M0 F M (st.set d .und) (a.put (some d) v) w:=by
  have:=hg.fin (dst:=some d) (s:=.und) (v:=v) (fun d' hd=>by cases hd;exact hb) rfl trivial
  exact this
theorem isBox_dropS {s:S} (h:isBox s=false):isBox (dropS s)=false:=by rw [isBox_drop];exact h
noncomputable def regAt (id:Nat) (c:Code):Array Oper:=match findRegion id c with|some o=>o|none => #[]
theorem infoAt {ops:Array Oper} {L:List (Option Tmp×Op×Option (Nat×Bool))} (h:ops.toList.map opInfo=L) {i:Nat} {x:Option Tmp×Op×Option (Nat×Bool)} (hx:L[i]? = some x):∃ o,ops[i]? = some o/\o.dst=x.1/\o.op=x.2.1/\o.guard=x.2.2:=by
  rw [<- h,List.getElem?_map,Array.getElem?_toList] at hx
  cases h:ops[i]? with
  | none=>rw [h] at hx;cases hx
  | some o=>rw [h] at hx;cases hx;exact ⟨o,rfl,rfl,rfl,rfl⟩
theorem put_none {a:Act} {v:Value}:a.put none v=a:=rfl
theorem get_repl (n i:Nat):get (List.replicate n S.und) i = .und:=by
  unfold get
  rw [List.getD_eq_getElem?_getD,List.getElem?_replicate]
  split<;>rfl
theorem resV_cell {P:Program} {tmps:Array Value} {w:World} {i b:Nat} {T:TypeId} {v:Value} (h:tmps.getD i undef = .pointer (some ⟨b,0,none⟩)) (hl:(loadVar T ⟨b,0,none⟩).run P w = .ok v w):(resV tmps (.cell i T)).run P w = .ok v w:=by
  unfold resV
  simp only [h]
  simp [asAddr,hl]
theorem cell_at {W:World} {b:Nat} {cells:Array Value} {T:TypeId} (h:W.heap[b]? = some (.cells cells T (0,0))) {k:Nat} {u:Value} (hk:cells[k]? = some u):W.cell? ⟨b,k,none⟩=some u:=(cell_of_row W b k cells T (0,0) h).trans hk
theorem heap_at {W:World} {o:Obj} {n:Nat} (h:n=W.heap.size):(W.alloc o).heap[n]? = some o:=h ▸ heap_alloc_new W o
end Go.V
namespace Go.V
def codeAt:List Nat->Code->Option Code
  | [],c=>some c
  | p :: ps,.seq a b=>(match p with|0=>codeAt ps a|_=>codeAt ps b)
  | p :: ps,.cond _ a b=>(match p with|0=>codeAt ps a|_=>codeAt ps b)
  | _ :: ps,.block _ b=>codeAt ps b
  | _ :: ps,.loop b=>codeAt ps b
  | _ :: ps,.scope b=>codeAt ps b
  | _,_=>none
def setC (c:Operand) (st:St) (b:Bool):St:=match c with | .tmp t=>st.set t (.d .bool b)|_=>st
theorem setC_self {c:Operand} {st:St} {v:Bool} (e:opnd st c = .d .bool v):setC c st v=st:=by
  cases c with
  | tmp t=>exact set_self e (by simp)
  | _=>rfl
section
variable {ρ : Type} (P : Program) (Φ : Nat → List Spec) (hints : List (Nat × List Nat)) (N : Nat)
end
section
variable {P : Program} [Inv P] {Φ : Nat → List Spec} {ρ : Type}
end
end Go.V
namespace Go.V
open Go.RowKit (Below)
structure Hole where
  σ:Type
  hb:σ->World->Nat->Prop
  I:σ->Mut->World->Prop
  keep:∀ s M w M' w',I s M w->Stable M w M' w'->(∀ b,hb s w b->w'.heap[b]? = w.heap[b]?)->I s M' w'
  same:∀ s M w w',I s M w->(∀ b,hb s w b->w'.heap[b]? = w.heap[b]?)->∀ b,hb s w' b->hb s w b
  lt:∀ s M w b,I s M w->hb s w b->b<w.heap.size
  nd:∀ s M w b c,I s M w->hb s w b->w.heap[b]? ≠ some (.deferred c)
def GoodH (H:Hole) (F:Nat->Prop) (M0:Base) (s:H.σ) (M:Mut) (st:St) (a:Act) (w:World):Prop :=
  H.I s M w/\Good M0 F M st a w/\∀ b,H.hb s w b->¬ F b/\(∀ o,M b o)/\∀ i k,¬ owns st a w i k b
def ConcH (H:Hole) (F:Nat->Prop) (M0:Base) (w0:World) (s:H.σ) (st:St) (a:Act) (w:World):Prop:=Fr F w0 w/\∃ M,GoodH H F M0 s M st a w
def apartB (M0:Base) (B:Nat->Prop) (M:Mut) (w:World):Base:={ mu:=fun b o=>M0.mu b o\/B b,ms:=M,ws:=w,pin:=M0.pin,dm:=fun D=>M0.dm D/\¬ B D }
theorem marks_imp {q q':Nat->Prop} {w:World} (h:∀ D,q D->w.heap[D]? = some (.deferred (some []))->q' D):∀ {ds:List Deferred},Marks q w ds->Marks q' w ds
  | [],_=>trivial
  | _ :: _,⟨⟨D,e,h1,h2⟩,h3,h4⟩=>⟨⟨D,e,h1,h D h2 h1⟩,h3,marks_imp h h4⟩
section
variable {H : Hole} {F : Nat → Prop} {M0 : Base} {w0 : World} {s s' : H.σ} {M : Mut} {st : St} {a : Act} {w : World}
theorem GoodH.focus (h:GoodH H F M0 s M st a w):Good (apartB M0 (H.hb s w) M w) (fun b=>F b\/H.hb s w b) M st a w:=by
  obtain ⟨hH,hg,hh⟩:=h
  refine ⟨marks_imp (fun D h1 h2=>⟨h1,fun hB=>H.nd s M w D _ hH hB h2⟩) hg.defers,hg.size,fun b hb=>hb.elim (hg.room b) (H.lt s M w b hH),fun b o hm=>hm.imp (hg.base b o) id,fun b o hm=>hm.elim (hg.up b o) fun hB=>(hh b hB).2.1 o,hg.lt,
    fun b o hb hm=>?_,hg.slot,hg.one,fun i k b ho hb=>?_,stable_refl _ _,hg.pin,fun D hD=>⟨hg.dm D fun hF=>hD (.inl hF),fun hB=>hD (.inr hB)⟩⟩
  . rcases hb with hF|hB
    . exact .inl (hg.down b o hF hm)
    . exact .inr hB
  . rcases hb with hF|hB
    . exact hg.new i k b ho hF
    . exact (hh b hB).2.2 i k ho
theorem GoodH.unfocus (h:GoodH H F M0 s M st a w) {M':Mut} {st':St} {a':Act} {w':World} (hf:Fr (fun b=>F b\/H.hb s w b) w w') (hg':Good (apartB M0 (H.hb s w) M w) (fun b=>F b\/H.hb s w b) M' st' a' w'):GoodH H F M0 s M' st' a' w':=by
  obtain ⟨hH,hg,hh⟩:=h
  have hsm:=H.same s M w w' hH fun b hb=>hf.block b (.inr hb)
  refine ⟨H.keep s M w M' w' hH hg'.keep fun b hb=>hf.block b (.inr hb),?_,fun b hb=>⟨(hh b (hsm b hb)).1,fun o=>hg'.up b o (.inr (hsm b hb)),fun i k ho=>hg'.new i k b ho (.inr (hsm b hb))⟩⟩
  exact ⟨hg'.defers.imp fun D hD=>hD.1,hg'.size,fun b hb=>hg'.room b (.inl hb),hg.base,fun b o hm=>hg'.up b o (.inl hm),hg'.lt,fun b o hF hm=>(hg'.down b o (.inl hF) hm).resolve_right fun hB=>(hh b hB).1 hF,
    hg'.slot,hg'.one,fun i k b ho hF=>hg'.new i k b ho (.inl hF),hg.keep.trans hg'.keep,hg'.pin,hg.dm⟩
theorem fr_left {A B:Nat->Prop} {w w':World} (h:Fr (fun b=>A b\/B b) w w'):Fr A w w':=⟨h.os,h.tape,h.output,h.size,fun k hk=>h.block k (.inl hk)⟩
theorem ConcH.lift (h:ConcH H F M0 w0 s st a w) :
    ∃ N0:Base,(∀ j v,N0.pin j=some v->M0.pin j=some v)/\Conc (fun b=>F b\/H.hb s w b) N0 w st a w/\∀ st' a' w',Conc (fun b=>F b\/H.hb s w b) N0 w st' a' w'->ConcH H F M0 w0 s st' a' w':=by
  obtain ⟨hfr,M,h⟩:=h
  exact ⟨apartB M0 (H.hb s w) M w,fun j v hj=>hj,⟨Fr.refl _ _,M,h.focus⟩,fun st' a' w' ⟨hf,M',hg'⟩=>⟨hfr.trans (fr_left hf),M',h.unfocus hf hg'⟩⟩
theorem GoodH.turn (h:GoodH H F M0 s M st a w) {w':World} (hf:Fr (fun k=>k<w.heap.size/\¬ H.hb s w k) w w') (hs:∀ w1:World,w1.heap.size=w.heap.size->Fr (fun k=>k<w.heap.size/\¬ H.hb s w k) w w1->(∀ k,H.hb s w k->w1.heap[k]? = w'.heap[k]?)->H.I s' M w1/\∀ b,H.hb s' w1 b->H.hb s w b) :
    ∃ w1,GoodH H F M0 s' M st a w1/\w1.heap.size=w.heap.size/\Below w1.heap.size w1 w'/\Fr F w w1:=by
  obtain ⟨hH,hg,hh⟩:=h
  classical
  obtain ⟨w1,hw1⟩:∃ w1:World,w1={ w with heap:=w.heap.mapIdx fun i ob=>if H.hb s w i then (w'.heap[i]?).getD ob else ob }:=⟨_,rfl⟩
  have hsz:w1.heap.size=w.heap.size:=by rw [hw1];simp
  have hin:∀ k,H.hb s w k->w1.heap[k]? = w'.heap[k]? := fun k hk=>by
    have hlt:k<w.heap.size:=H.lt s M w k hH hk
    have hlt':k<w'.heap.size:=Nat.lt_of_lt_of_le hlt hf.size
    rw [hw1]
    simp [hk,hlt,hlt']
  have hout:∀ k,¬ H.hb s w k->w1.heap[k]? = w.heap[k]? := fun k hk=>by
    rw [hw1]
    simp only [Array.getElem?_mapIdx,if_neg hk]
    cases w.heap[k]? <;> rfl
  have hos:w1.os=w.os/\w1.tape=w.tape/\w1.output=w.output:=by rw [hw1];exact ⟨rfl,rfl,rfl⟩
  have hFn:∀ b,F b->¬ H.hb s w b:=fun b hF hB=>(hh b hB).1 hF
  have hbl:Fr (· < w1.heap.size) w1 w':=by
    refine ⟨hf.os.trans hos.1.symm,hf.tape.trans hos.2.1.symm,hf.output.trans hos.2.2.symm,hsz ▸ hf.size,fun k hk=>?_⟩
    by_cases hB:H.hb s w k
    . exact (hin k hB).symm
    . rw [hout k hB];exact hf.block k ⟨hsz ▸ hk,hB⟩
  obtain ⟨hs1,hsub⟩:=hs w1 hsz ⟨hos.1,hos.2.1,hos.2.2,Nat.le_of_eq hsz.symm,fun k hk=>hout k hk.2⟩ hin
  refine ⟨w1,⟨hs1,?_,fun b hb=>?_⟩,hsz,hbl.toBelow,⟨hos.1,hos.2.1,hos.2.2,Nat.le_of_eq hsz.symm,fun k hF=>hout k (hFn k hF)⟩⟩
  . refine hg.world (M':=M) (fun b o v hc hm=>⟨?_,hm⟩) (Nat.le_of_eq hsz.symm) hg.up (fun b o hm=>hsz ▸ hg.lt b o hm) hg.down (fun D c e=>(hout D fun hB=>H.nd s M w D c hH hB e).trans e) fun i k b ho=>⟨hout b fun hB=>(hh b hB).2.2 i k ho,fun _ h=>h⟩
    exact (World.cell?_of_block (a:=⟨b,o,none⟩) (hout b fun hB=>hm ((hh b hB).2.1 o))).trans hc
  . obtain ⟨h1,h2,h3⟩:=hh b (hsub b hb)
    exact ⟨h1,h2,fun i k ho=>h3 i k (owns_world (fun i b' ho'=>hout b' fun hB=>(hh b' hB).2.2 i none ho') ho)⟩
end
def MContract (P:Program) [Inv P] (H:Hole) (s:H.σ) (sp:Spec):Prop :=
  ∀ (x:sp.arg.den) (M:Mut) (w:World) (vs:Array Value) (r:sp.res.den),Inv.I P w->H.I s M w->RepT M w sp.arg vs.toList x->(∀ b o,M b o->b<w.heap.size)->(∀ b,H.hb s w b->∀ o,M b o)->sp.f x = .ret r ->
    Calls P sp.fn vs w fun e w'=>∃ v,e = .returned v/\Fr (fun k=>k<w.heap.size/\¬ H.hb s w k) w w'/\(∀ w1:World,w1.heap.size=w.heap.size->Fr (fun k=>k<w.heap.size/\¬ H.hb s w k) w w1->(∀ k,H.hb s w k->w1.heap[k]? = w'.heap[k]?)->H.I s M w1/\∀ b,H.hb s w1 b->H.hb s w b)/\ResOK M w w' sp.multi sp.own sp.res v r
def CallH (P:Program) [Inv P] (H:Hole) (s:H.σ) (sp:Spec):Prop:=Contract P sp\/(sp.kind = .call/\MContract P H s sp)
inductive Outs (H:Hole) where
  | some (l:List (H.σ×St))
  | each (f:Value->H.σ×St)
def Outs.mem {H:Hole} (z:H.σ×St):Outs H->Prop
  | .some l=>z∈l
  | .each f=>∃ v,z=f v
structure HdH (H:Hole) where
  run:{ρ:Type}->(X->H.σ->St->Out ρ)->H.σ->St->Out ρ
def subL {α:Type 1} (i:Nat):List (List Nat×α)->List (List Nat×α)
  | []=>[]
  | (j :: ps,E) :: T=>if j=i then (ps,E) :: subL i T else subL i T
  | ([],_) :: T=>subL i T
def hereL {α:Type 1}:List (List Nat×α)->Option α
  | []=>none
  | ([],E) :: _=>some E
  | (_ :: _,_) :: T=>hereL T
def pickQ {α:Type 1} {ρ:Type} (T:List (List Nat×α)) (old:Out ρ) (hand:α->Out ρ) (new:Out ρ):Out ρ :=
  match T with
  | []=>old
  | _ :: _=>(match hereL T with
    | some E=>hand E
    | none=>new)
def iterQ {σ ρ:Type} (f:(X->σ->St->Out ρ)->σ->St->Out ρ) (mask:St->St) (k:X->σ->St->Out ρ):Nat->σ->St->Out ρ
  | 0,_,_=>.fail
  | n+1,s,st=>f (fun e s st=>match e with | .normal=>iterQ f mask k n s (mask st)|e=>k e s st) s st
noncomputable def both {α:Type} (a b:Out α):Out α:=open Classical in if a=b then a else .fail
theorem both_ok {α:Type} {a b fin:Out α} (hf:fin ≠ .fail) (h:both a b=fin):a=fin/\b=fin:=by
  unfold both at h
  split at h
  . rename_i e;exact ⟨h,e ▸ h⟩
  . exact absurd h.symm hf
noncomputable def anyOf {α ρ:Type} (go:α->Out ρ):List α->Out ρ
  | []=>.fail
  | [z]=>go z
  | z :: y :: zs=>both (go z) (anyOf go (y :: zs))
theorem anyOf_ok {α ρ:Type} {go:α->Out ρ} {fin:Out ρ} (hf:fin ≠ .fail):∀ {l:List α},anyOf go l=fin->l≠[]/\∀ z∈l,go z=fin
  | [],h=>absurd h.symm hf
  | [z],h=>⟨by simp,fun y hy=>by rw [List.mem_singleton] at hy;subst hy;exact h⟩
  | z :: y :: zs,h=>by
    obtain ⟨h1,h2⟩:=both_ok hf h
    obtain ⟨_,h3⟩:=anyOf_ok hf h2
    refine ⟨by simp,fun x hx=>?_⟩
    rcases List.mem_cons.1 hx with rfl|hx
    . exact h1
    . exact h3 x hx
noncomputable def allOf {α ρ:Type} (go:α->Out ρ):Out ρ:=open Classical in if h:∃ r,∀ z,go z=r then h.choose else .fail
theorem allOf_ok {α ρ:Type} {go:α->Out ρ} {fin:Out ρ} (hf:fin ≠ .fail) (h:allOf go=fin):∀ z,go z=fin:=by
  unfold allOf at h
  split at h
  . rename_i he;intro z;rw [<- h];exact he.choose_spec z
  . exact absurd h.symm hf
theorem allOf_eq {α ρ:Type} [Inhabited α] {go:α->Out ρ} {r:Out ρ} (h:∀ z,go z=r):allOf go=r:=by
  unfold allOf
  have he:∃ r,∀ z,go z=r:=⟨r,h⟩
  rw [dif_pos he]
  exact (he.choose_spec default).symm.trans (h default)
noncomputable def outsOf {H:Hole} {ρ:Type} (go:H.σ×St->Out ρ):Outs H->Out ρ
  | .some l=>anyOf go l
  | .each f=>allOf fun v=>go (f v)
theorem outsOf_ok {H:Hole} {ρ:Type} {go:H.σ×St->Out ρ} {fin:Out ρ} (hf:fin ≠ .fail):∀ {o:Outs H},outsOf go o=fin->(∃ z,o.mem z)/\∀ z,o.mem z->go z=fin
  | .some l,h=>by
    obtain ⟨h1,h2⟩:=anyOf_ok hf (show anyOf go l=fin from h)
    obtain ⟨z,hz⟩:=List.exists_mem_of_ne_nil _ h1
    exact ⟨⟨z,hz⟩,h2⟩
  | .each f,h=>by
    have h1:=allOf_ok hf (show (allOf fun v=>go (f v))=fin from h)
    exact ⟨⟨f default,default,rfl⟩,fun z ⟨v,hv⟩=>hv ▸ h1 v⟩
section
variable {ρ : Type} (P : Program) (H : Hole) (Φ : Nat → List Spec) (hints : List (Nat × List Nat)) (N : Nat)
def vhq:Code->List (List Nat×HdH H)->(X->H.σ->St->Out ρ)->H.σ->St->Out ρ
  | .seq a b,T,k,s,st=>pickQ T (vexec P Φ hints N (.seq a b) none (fun x st=>k x s st) st) (fun E=>E.run k s st) (vhq a (subL 0 T) (fun e s st=>match e with | .normal=>vhq b (subL 1 T) k s st|e=>k e s st) s st)
  | .cond c a b,T,k,s,st=>pickQ T (vexec P Φ hints N (.cond c a b) none (fun x st=>k x s st) st) (fun E=>E.run k s st)
    (match opnd st c with
     | .d .bool v=>(match v with
       | true=>vhq a (subL 0 T) k s (setC c st true)
       | false=>vhq b (subL 1 T) k s (setC c st false))
     | _=>.fail)
  | .block id b,T,k,s,st=>pickQ T (vexec P Φ hints N (.block id b) none (fun x st=>k x s st) st) (fun E=>E.run k s st) (vhq b (subL 0 T) (fun e s st=>match e with
      | .exit i=>if i=id then k .normal s st else k (.exit i) s st
      | e=>k e s st) s st)
  | .loop b,T,k,s,st=>pickQ T (vexec P Φ hints N (.loop b) none (fun x st=>k x s st) st) (fun E=>E.run k s st) (iterQ (fun k' s st=>vhq b (subL 0 T) k' s st) (maskOf hints b) k N s (maskOf hints b st))
  | .scope b,T,k,s,st=>pickQ T (vexec P Φ hints N (.scope b) none (fun x st=>k x s st) st) (fun E=>E.run k s st) (vhq b (subL 0 T) k s st)
  | c,T,k,s,st=>pickQ T (vexec P Φ hints N c none (fun x st=>k x s st) st) (fun E=>E.run k s st) .fail
def walkQ (fin:Code->List (List Nat×HdH H)->(X->H.σ->St->Out ρ)->Out ρ):List Nat->Code->List (List Nat×HdH H)->(X->H.σ->St->Out ρ)->Out ρ
  | [],c,T,k=>fin c T k
  | p :: ps,.seq a b,T,k=>(match p with
    | 0=>walkQ fin ps a (subL 0 T) (fun e s st=>match e with | .normal=>vhq P H Φ hints N b (subL 1 T) k s st|e=>k e s st)
    | _=>walkQ fin ps b (subL 1 T) k)
  | p :: ps,.cond _ a b,T,k=>(match p with|0=>walkQ fin ps a (subL 0 T) k|_=>walkQ fin ps b (subL 1 T) k)
  | _ :: ps,.block id b,T,k=>walkQ fin ps b (subL 0 T) (fun e s st=>match e with
      | .exit i=>if i=id then k .normal s st else k (.exit i) s st
      | e=>k e s st)
  | n :: ps,.loop b,T,k=>walkQ fin ps b (subL 0 T) (fun e s st=>match e with | .normal=>iterQ (fun k' s st=>vhq P H Φ hints N b (subL 0 T) k' s st) (maskOf hints b) k n s (maskOf hints b st)|e=>k e s st)
  | _ :: ps,.scope b,T,k=>walkQ fin ps b (subL 0 T) k
  | _,_,_,_=>.fail
def kEndQ (rs:List ResultVar) (multi own:Bool) (t:Ty):X->H.σ->St->Out (H.σ×t.den):=fun e s st=>match e with
    | .normal=>(match vres P rs multi own t st with | .ret r=>.ret (s,r)|_=>.fail)
    | .ret=>(match vres P rs multi own t st with | .ret r=>.ret (s,r)|_=>.fail)
    | _=>.fail
def vfnQ (T:List (List Nat×HdH H)) (f:Func) (multi own:Bool) (a t:Ty) (s:H.σ) (x:a.den):Out (H.σ×t.den) :=
  vhq P H Φ hints N (bodyOf f) T (kEndQ P H f.results.toList multi own t) s (st0 f.ntmps a x)
def vloopQ (T:List (List Nat×HdH H)) (f:Func) (multi own:Bool) (t:Ty) (path:List Nat) (n:Nat) (s:H.σ) (st:St):Out (H.σ×t.den) :=
  walkQ P H Φ hints N (fun c T k=>match c with
    | .loop b=>iterQ (fun k' s st=>vhq P H Φ hints N b (subL 0 T) k' s st) (maskOf hints b) k n s st
    | _=>.fail) path (bodyOf f) T (kEndQ P H f.results.toList multi own t)
noncomputable def hlexQ (Ψ:H.σ->Nat->List Spec) (D:Nat->Option (Nat×(H.σ->St->Bool×Outs H))) (ops:Array Oper) (k:H.σ->St->Out ρ):List Oper->Nat->Nat->H.σ->St->Out ρ
  | [],_,0,s,st=>k s st
  | [],_,_+1,_,_=>.fail
  | _ :: rest,i,c+1,s,st=>hlexQ Ψ D ops k rest (i+1) c s st
  | o :: rest,i,0,s,st=>match D i with
    | some y=>bif (y.2 s st).1 then outsOf (fun z=>hlexQ Ψ D ops k rest (i+1) y.1 z.1 z.2) (y.2 s st).2 else .fail
    | none=>vop P (Ψ s) (fun _ _=>.fail) ops o (fun _ st'=>hlexQ Ψ D ops k rest (i+1) 0 s st') st
end
section
variable {P : Program} [Inv P] {H : Hole} {Φ : Nat → List Spec} {ρ : Type}
def EOKH (P:Program) [Inv P] (H:Hole) (c:Code) (E:{ρ:Type}->(X->H.σ->St->Out ρ)->H.σ->St->Out ρ):Prop :=
  ∀ {ρ:Type} {fin:Out ρ} (_:fin ≠ .fail) (_:∀ p,fin ≠ .pan p) (F:Nat->Prop) (M0:Base) (w0:World) (n:Nat),(∀ w,Fr F w0 w->Inv.I P w)->(∀ j v,M0.pin j=some v->False) ->
    ∀ (k:X->H.σ->St->Out ρ) (Q:Exit->Act->World->Prop),
      (∀ x s st a w,ConcH H F M0 w0 s st a w->k x s st=fin->Q x.exit' a w)->∀ s st a w,ConcH H F M0 w0 s st a w->E k s st=fin->c.wpIn (fen none) n P Q a w
def AllQ (P:Program) [Inv P] (H:Hole) (c:Code) (T:List (List Nat×HdH H)):Prop:=∀ e∈T,∃ c',codeAt e.1 c=some c'/\EOKH P H c' (fun {ρ} k s st=>e.2.run (ρ:=ρ) k s st)
theorem mem_subL {α:Type 1} {i:Nat} {e:List Nat×α}:∀ {T:List (List Nat×α)},e∈subL i T->(i :: e.1,e.2)∈T
  | [],h=>by cases h
  | (j :: ps,E) :: T,h=>by
    unfold subL at h
    split at h
    . rename_i hj
      rcases List.mem_cons.1 h with rfl|h
      . subst hj;exact List.mem_cons_self ..
      . exact List.mem_cons_of_mem _ (mem_subL h)
    . exact List.mem_cons_of_mem _ (mem_subL h)
  | ([],_) :: T,h=>List.mem_cons_of_mem _ (mem_subL (T:=T) h)
theorem mem_hereL {α:Type 1} {E:α}:∀ {T:List (List Nat×α)},hereL T=some E->([],E)∈T
  | [],h=>by cases h
  | ([],_) :: _,h=>by cases h;exact List.mem_cons_self ..
  | (_ :: _,_) :: T,h=>List.mem_cons_of_mem _ (mem_hereL (T:=T) h)
theorem allQ_nil {c:Code}:AllQ P H c []:=fun _ h=>absurd h List.not_mem_nil
theorem allQ_cons {c c':Code} {p:List Nat} {E:HdH H} {T:List (List Nat×HdH H)} (h1:codeAt p c=some c') (h2:EOKH P H c' (fun {ρ} k s st=>E.run (ρ:=ρ) k s st)) (hT:AllQ P H c T):AllQ P H c ((p,E) :: T):=by
  intro e he
  rcases List.mem_cons.1 he with rfl|he
  . exact ⟨c',h1,h2⟩
  . exact hT e he
theorem AllQ.seq {a b:Code} {T:List (List Nat×HdH H)} (h:AllQ P H (.seq a b) T):AllQ P H a (subL 0 T)/\AllQ P H b (subL 1 T) :=
  ⟨fun e he=>h _ (mem_subL he),fun e he=>h _ (mem_subL he)⟩
theorem AllQ.cond {c:Operand} {a b:Code} {T:List (List Nat×HdH H)} (h:AllQ P H (.cond c a b) T):AllQ P H a (subL 0 T)/\AllQ P H b (subL 1 T) :=
  ⟨fun e he=>h _ (mem_subL he),fun e he=>h _ (mem_subL he)⟩
def HOKQ (P:Program) [Inv P] (H:Hole) (Φ:Nat->List Spec) (hints:List (Nat×List Nat)) (N:Nat) {ρ:Type} (fin:Out ρ) (c:Code):Prop :=
  ∀ (T:List (List Nat×HdH H)),AllQ P H c T->∀ (F:Nat->Prop) (M0:Base) (w0:World) (n:Nat),(∀ w,Fr F w0 w->Inv.I P w)->(∀ j v,M0.pin j=some v->False) ->
    ∀ (k:X->H.σ->St->Out ρ) (Q:Exit->Act->World->Prop),
      (∀ x s st a w,ConcH H F M0 w0 s st a w->k x s st=fin->Q x.exit' a w)->∀ s st a w,ConcH H F M0 w0 s st a w->vhq P H Φ hints N c T k s st=fin->c.wpIn (fen none) n P Q a w
theorem ConcH.inv {F:Nat->Prop} {M0:Base} {w0:World} {s:H.σ} {st:St} {a:Act} {w:World} (hc:ConcH H F M0 w0 s st a w) (hI:∀ w,Fr F w0 w->Inv.I P w):∀ w',Fr (fun b=>F b\/H.hb s w b) w w'->Inv.I P w' :=
  fun w' hf=>hI w' (hc.1.trans (fr_left hf))
theorem pickQ_ok (hΦ:∀ g sp,sp∈Φ g->Contract P sp) (hm:P.follows .mixedOrders=true) (hints:List (Nat×List Nat)) (N:Nat) {fin:Out ρ} (hf:fin ≠ .fail) (hr:∀ p,fin ≠ .pan p) {c:Code} {T:List (List Nat×HdH H)} (hT:AllQ P H c T) {F:Nat->Prop} {M0:Base} {w0:World} {n:Nat}
    (hI:∀ w,Fr F w0 w->Inv.I P w) (hpl:∀ j v,M0.pin j=some v->False) {k:X->H.σ->St->Out ρ} {Q:Exit->Act->World->Prop}
    (hQ:∀ x s st a w,ConcH H F M0 w0 s st a w->k x s st=fin->Q x.exit' a w) {s:H.σ} {st:St} {a:Act} {w:World} (hc:ConcH H F M0 w0 s st a w) {new:Out ρ} (h:pickQ T (vexec P Φ hints N c none (fun x st=>k x s st) st) (fun E=>E.run k s st) new=fin)
    (hnew:new=fin->c.wpIn (fen none) n P Q a w):c.wpIn (fen none) n P Q a w:=by
  unfold pickQ at h
  split at h
  . obtain ⟨N0,hpn,hcl,hback⟩:=hc.lift
    exact code_ok hΦ hm hints N hf c _ _ w none none n (fun _=>rfl) (hc.inv hI) (fun j v hj=>(hpl j v (hpn j v hj)).elim) (fun x st=>k x s st) Q (fun _ p q hp=>absurd hp (hr p)) (fun x st a w hc h=>hQ x s st a w (hback _ _ _ hc) h) st a w hcl h
  . split at h
    . rename_i E hE
      obtain ⟨c',e1,e2⟩:=hT _ (mem_hereL hE)
      cases e1
      exact e2 hf hr F M0 w0 n hI hpl k Q hQ s st a w hc h
    . exact hnew h
theorem ConcH.maskOf {F:Nat->Prop} {M0:Base} {w0:World} {s:H.σ} {st:St} {a:Act} {w:World} (h:ConcH H F M0 w0 s st a w) {hints:List (Nat×List Nat)} {b:Code} (hpl:∀ j v,M0.pin j=some v->False):ConcH H F M0 w0 s (Go.V.maskOf hints b st) a w:=by
  obtain ⟨N0,hpn,hcl,hback⟩:=h.lift
  exact hback _ _ _ (hcl.maskOf fun j v hj=>(hpl j v (hpn j v hj)).elim)
theorem vhq_ok (hΦ:∀ g sp,sp∈Φ g->Contract P sp) (hm:P.follows .mixedOrders=true) (hints:List (Nat×List Nat)) (N:Nat) {fin:Out ρ} (hf:fin ≠ .fail) (hr:∀ p,fin ≠ .pan p):∀ (c:Code),HOKQ P H Φ hints N fin c:=by
  intro c
  induction c with
  | seq x y ihx ihy =>
    intro T hT F M0 w0 n hI hpl k Q hQ s st a w hc h
    unfold vhq at h
    refine pickQ_ok hΦ hm hints N hf hr hT hI hpl hQ hc h fun h=>?_
    refine wpIn_seq (ihx _ hT.seq.1 F M0 w0 n hI hpl _ _ ?_ s st a w hc h)
    intro e s st a w hc h
    cases e with
    | normal=>exact ihy _ hT.seq.2 F M0 w0 n hI hpl k Q hQ s st a w hc h
    | exit i=>exact hQ (.exit i) s st a w hc h
    | ret=>exact hQ .ret s st a w hc h
  | cond c x y ihx ihy =>
    intro T hT F M0 w0 n hI hpl k Q hQ s st a w hc h
    unfold vhq at h
    refine pickQ_ok hΦ hm hints N hf hr hT hI hpl hQ hc h fun h=>?_
    split at h
    rotate_left
    . exact absurd h.symm hf
    rename_i v e
    obtain ⟨hb,M,hg⟩:=id hc
    refine wpIn_cond (slot_bool (e ▸ opnd_ok hg.2.1 c)) ?_
    cases v with
    | true =>
      dsimp only at h
      rw [setC_self e] at h
      exact ihx _ hT.cond.1 F M0 w0 n hI hpl k Q hQ s st a w hc h
    | false =>
      dsimp only at h
      rw [setC_self e] at h
      exact ihy _ hT.cond.2 F M0 w0 n hI hpl k Q hQ s st a w hc h
  | block id b ih =>
    intro T hT F M0 w0 n hI hpl k Q hQ s st a w hc h
    unfold vhq at h
    refine pickQ_ok hΦ hm hints N hf hr hT hI hpl hQ hc h fun h=>?_
    refine wpIn_block (ih _ (fun e he=>hT _ (mem_subL he)) F M0 w0 n hI hpl _ _ ?_ s st a w hc h)
    intro x s st a w hc h
    cases x with
    | normal=>exact hQ .normal s st a w hc h
    | ret=>exact hQ .ret s st a w hc h
    | exit i =>
      show if i=id then _ else _
      dsimp only at h
      split
      . rename_i e;rw [if_pos e] at h;exact hQ .normal s st a w hc h
      . rename_i e;rw [if_neg e] at h;exact hQ (.exit i) s st a w hc h
  | loop b ih =>
    intro T hT F M0 w0 n hI hpl k Q hQ s st a w hc h
    unfold vhq at h
    refine pickQ_ok hΦ hm hints N hf hr hT hI hpl hQ hc h fun h=>?_
    have key:∀ m s st a w,ConcH H F M0 w0 s st a w->iterQ (fun k' s st=>vhq P H Φ hints N b (subL 0 T) k' s st) (Go.V.maskOf hints b) k m s st=fin->Code.roundsIn (fen none) n P b Q m a w:=by
      intro m
      induction m with
      | zero=>intro s st a w _ h;exact absurd h.symm hf
      | succ m ihm =>
        intro s st a w hc h
        refine ih _ (fun e he=>hT _ (mem_subL he)) F M0 w0 n hI hpl _ _ ?_ s st a w hc h
        intro x s st a w hc h
        cases x with
        | normal=>exact ihm s _ a w (hc.maskOf hpl) h
        | exit i=>exact hQ (.exit i) s st a w hc h
        | ret=>exact hQ .ret s st a w hc h
    exact wpIn_loop_rounds N (key N s _ a w (hc.maskOf hpl) h)
  | scope b ih =>
    intro T hT F M0 w0 n hI hpl k Q hQ s st a w hc h
    unfold vhq at h
    refine pickQ_ok hΦ hm hints N hf hr hT hI hpl hQ hc h fun h=>?_
    refine wpIn_wide.2 (wp_scope_straight ((wpIn_wide (n:=n)).1 (ih _ (fun e he=>hT _ (mem_subL he)) F M0 w0 n hI hpl k _ ?_ s st a w hc h)))
    intro x s st a w hc h
    have:=hQ x s st a w hc h
    cases x<;>exact this
  | _ =>
    intro T hT F M0 w0 n hI hpl k Q hQ s st a w hc h
    unfold vhq at h
    exact pickQ_ok hΦ hm hints N hf hr hT hI hpl hQ hc h fun h=>absurd h.symm hf
theorem GoodH.res {F:Nat->Prop} {M0:Base} {s:H.σ} {M:Mut} {st:St} {a:Act} {w:World} {o:Oper} (h:GoodH H F M0 s M st a w) (hnb:dstBox o st=false) {w':World} (hf:Fr (fun k=>k<w.heap.size/\¬ H.hb s w k) w w') {s':H.σ} (hs:∀ w1:World,w1.heap.size=w.heap.size->Fr (fun k=>k<w.heap.size/\¬ H.hb s w k) w w1->(∀ k,H.hb s w k->w1.heap[k]? = w'.heap[k]?)->H.I s' M w1/\∀ b,H.hb s' w1 b->H.hb s w b) {multi own:Bool} {t:Ty} {v:Value} {r:t.den}
    (hr:ResOK M w w' multi own t v r):Fr F w w'/\∃ M',GoodH H F M0 s' M' (app (o.dst.toList.map (·,mkRes multi own t r)) st) (a.put o.dst v) w':=by
  obtain ⟨w1,h1,hsz,hbel,hf1⟩:=h.turn hf hs
  have hr1:ResOK M w1 w' multi own t v r:=by
    obtain ⟨M',e1,e2,e3,e4⟩:=hr
    exact ⟨M',e1,fun b o hm=>by rw [hsz];exact e2 b o hm,e3,fun b e5 e6=>by rw [hsz];exact e4 b e5 e6⟩
  obtain ⟨M',hg'⟩:=h1.focus.res hnb hbel hr1
  have hf':Fr (fun b=>F b\/H.hb s' w1 b) w1 w':=Fr.below hbel h1.focus.room
  exact ⟨hf1.trans (fr_left hf'),M',h1.unfocus hf' hg'⟩
theorem decQ_wp {s:H.σ} (hΦ:∀ g sp,sp∈Φ g->CallH P H s sp) {F:Nat->Prop} {M0:Base} {w0:World} (hI:∀ w,Fr F w0 w->Inv.I P w) {n:Nat} {st:St} {a:Act} {w:World} {o:Oper} (hc:ConcH H F M0 w0 s st a w) {ops:Array Oper} {i:Nat} (hi:ops[i]? = some o) {g:Nat} {wr:List (Nat×S)} (h:Dec P Φ ops o st g wr)
    {K:Act->World->Prop} {Q:Exit->Act->World->Prop} (hK:∀ a' w',ConcH H F M0 w0 s (app wr st) a' w'->K a' w'):wpOpIn (fen none) n P ops Q i K a w:=by
  obtain ⟨hnb,b,hw,hrest⟩:=h
  obtain ⟨N0,hpn,⟨hb,M,hg⟩,hback⟩:=hc.lift
  have hI':=hc.inv hI
  have hwant:=wantS_ok hg hw
  unfold wpOpIn
  simp only [hi]
  rw [hwant]
  cases b with
  | false =>
    rw [if_neg (by simp)]
    obtain ⟨_,rfl⟩:=hrest
    exact ⟨fun f _=>fen_fn none f,hK _ _ (hback _ _ _ ⟨hb,M,hg.fin (nobox_of hnb) rfl ⟨[],rfl,rfl⟩⟩)⟩
  | true =>
    rw [if_pos rfl]
    rcases hrest.2 with ⟨y,r,hy,hr,rfl⟩|h
    . obtain ⟨h1,hk,e,t1,e2,he,xs,z,ys,hot,v1,v2,g1,g2,g3,g4,g5,g6,g7⟩:=op_take hg hy
      rcases hΦ _ _ h1 with hct|⟨hk',_⟩
      rotate_left
      . rw [hk] at hk';cases hk'
      unfold Contract at hct
      rw [hk] at hct
      have harr:ArrAt M w e (tm a y.2.2) xs:=by have:=hg.slot y.2.2;rw [g1] at this;exact this
      have hct:=hct e t1 e2 he xs z ys M w (tm a y.2.2) v1 v2 r (hI' _ hb) harr g4 g5 g6 g7 hg.lt (fun x hx=>by
        have:x=y.2.1:=takeX_inj he (hx.trans g2.symm)
        rw [this];exact hr)
      refine ⟨fun f _=>fen_fn none f,?_⟩
      rw [take_sem hy,g3]
      refine ⟨fun hd=>by rw [fen_depth] at hd;simp at hd,calls_fen (hct.mono fun e w' he=>?_)⟩
      obtain ⟨v,rfl,hb',M',m1,m2,m3,m4⟩:=he
      obtain ⟨f1,f2⟩:=hg.take hnb g1 hb' m1 m2 m3 m4
      exact hK _ _ (hback _ _ _ ⟨hb.trans f1,M',f2⟩)
    have hne:vpre P Φ o st ≠ .bad:=by
      rcases h with ⟨rd,h⟩|⟨i,n,rd,f,j,h,_⟩|⟨sp,x,rd,r,h,_⟩<;>rw [h]<;>simp
    refine ⟨fun f _=>fen_fn none f,?_⟩
    rw [semAt_of hne]
    have fin:ORun P (fun b=>F b\/H.hb s w b) N0 w o a w (app wr st)->o.uponIn (fen none) n P a K Q ((execOp a.eval o).run P w):=by
      rintro ⟨v,w',hr,hb',M',hg'⟩
      rcases hr with hr|⟨hr,rfl⟩
      . rw [hr];exact hK _ _ (hback _ _ _ ⟨hb',M',hg'⟩)
      . rw [hr];exact hK _ _ (hback _ _ _ ⟨hb',M',hg'⟩)
    rcases h with ⟨rd,h⟩|⟨i,n,rd,f,j,h,hj,hij,rfl⟩|⟨sp,x,rd,r,h,hr,rfl⟩
    . exact fin (op_eff hg hb (nobox_of hnb) h rfl)
    . exact fin (op_cse hg hb (nobox_of hnb) h hj hij)
    . obtain ⟨h1,hk,vs,h2,h3⟩:=op_call hg h
      rcases hΦ _ _ h1 with hct|⟨_,hct⟩
      . unfold Contract at hct
        rw [hk] at hct
        have hct:=hct x M w vs (hI' _ hb) h3 hg.lt
        rw [hr] at hct
        rw [h2]
        refine ⟨fun hd=>by rw [fen_depth] at hd;simp at hd,calls_fen (hct.mono fun e w' he=>?_)⟩
        obtain ⟨v,rfl,hb',hres⟩:=he
        obtain ⟨M',hg'⟩:=hg.res hnb hb' hres
        exact hK _ _ (hback _ _ _ ⟨hb.trans (Fr.below hb' hg.room),M',hg'⟩)
      . obtain ⟨hfr0,M2,hG⟩:=id hc
        obtain ⟨h1',hk',vs',h2',h3'⟩:=op_call hG.2.1 h
        have hct:=hct x M2 w vs' r (hI' _ hb) hG.1 h3' hG.2.1.lt (fun b hB=>(hG.2.2 b hB).2.1) hr
        rw [h2']
        refine ⟨fun hd=>by rw [fen_depth] at hd;simp at hd,calls_fen (hct.mono fun e w' he=>?_)⟩
        obtain ⟨v,rfl,hf',hs',hres⟩:=he
        obtain ⟨e1,M',hg'⟩:=hG.res hnb hf' hs' hres
        exact hK _ _ ⟨hfr0.trans e1,M',hg'⟩
def HandQ (P:Program) [Inv P] (H:Hole) (ops:Array Oper) (i c:Nat) (g:H.σ->St->Bool×Outs H):Prop :=
  ∀ (F:Nat->Prop) (M0:Base) (w0:World) (n:Nat),(∀ w,Fr F w0 w->Inv.I P w)->(∀ j v,M0.pin j=some v->False) ->
    ∀ (Q:Exit->Act->World->Prop) (rest:List Nat) s st a w,ConcH H F M0 w0 s st a w->(g s st).1=true->(∀ z,(g s st).2.mem z->∀ a' w',ConcH H F M0 w0 z.1 z.2 a' w'->wpOpsIn (fen none) n P ops Q rest a' w') ->
      wpOpsIn (fen none) n P ops Q (List.range' i (c+1)++rest) a w
def HandOp (P:Program) [Inv P] (H:Hole) (ops:Array Oper) (i:Nat) (g:H.σ->St->Bool×Outs H):Prop :=
  ∀ (F:Nat->Prop) (M0:Base) (w0:World) (n:Nat),(∀ w,Fr F w0 w->Inv.I P w)->(∀ j v,M0.pin j=some v->False) ->
    ∀ (Q:Exit->Act->World->Prop) (K:Act->World->Prop) s st a w,ConcH H F M0 w0 s st a w->(g s st).1=true->(∀ z,(g s st).2.mem z->∀ a' w',ConcH H F M0 w0 z.1 z.2 a' w'->K a' w') ->
      wpOpIn (fen none) n P ops Q i K a w
theorem hlexQ_skip {Ψ:H.σ->Nat->List Spec} {D:Nat->Option (Nat×(H.σ->St->Bool×Outs H))} {ops:Array Oper} {k:H.σ->St->Out ρ} {fin:Out ρ} (hf:fin ≠ .fail):∀ (l:List Oper) (i c:Nat) (s:H.σ) (st:St),hlexQ P H Ψ D ops k l i c s st=fin->c<=l.length/\hlexQ P H Ψ D ops k (l.drop c) (i+c) 0 s st=fin
  | l,i,0,s,st,h=>⟨Nat.zero_le _,h⟩
  | [],i,c+1,s,st,h=>absurd h.symm hf
  | o :: l,i,c+1,s,st,h=>by
    obtain ⟨h1,h2⟩:=hlexQ_skip hf l (i+1) c s st h
    refine ⟨by simpa using h1,?_⟩
    have e:i+1+c=i+(c+1):=by omega
    rw [e] at h2
    exact h2
theorem hlexQ_seq {Ψ:H.σ->Nat->List Spec} (hΨ:∀ s g sp,sp∈Ψ s g->CallH P H s sp) {F:Nat->Prop} {M0:Base} {w0:World} (hI:∀ w,Fr F w0 w->Inv.I P w) (hpl:∀ j v,M0.pin j=some v->False) {n:Nat} {ops:Array Oper} {D:Nat->Option (Nat×(H.σ->St->Bool×Outs H))} {k:H.σ->St->Out ρ} {fin:Out ρ} (hf:fin ≠ .fail) {Q:Exit->Act->World->Prop}
    (hD:∀ i y,D i=some y->HandQ P H ops i y.1 y.2)
    (hk:∀ s st a w,ConcH H F M0 w0 s st a w->k s st=fin->Q .normal a w) :
    ∀ (m:Nat) (l:List Oper),l.length<=m->∀ (i:Nat) (s:H.σ) (st:St) (a:Act) (w:World),(∀ j,l[j]? = ops[i+j]?)->ConcH H F M0 w0 s st a w->hlexQ P H Ψ D ops k l i 0 s st=fin->wpOpsIn (fen none) n P ops Q (List.range' i l.length) a w:=by
  intro m
  induction m with
  | zero =>
    intro l hm i s st a w hl hc h
    obtain rfl:l=[]:=List.eq_nil_of_length_eq_zero (by omega)
    exact hk s st a w hc h
  | succ m ih =>
    intro l hm i s st a w hl hc h
    cases l with
    | nil=>exact hk s st a w hc h
    | cons o l =>
      have hm':l.length<=m:=by simpa using hm
      have hl':∀ j,l[j]? = ops[i+1+j]? := fun j=>by have:=hl (j+1);simpa [Nat.add_assoc,Nat.add_comm 1 j] using this
      have hi:ops[i]? = some o:=by simpa using (hl 0).symm
      unfold hlexQ at h
      cases hy:D i with
      | none =>
        rw [hy] at h
        dsimp only at h
        simp only [List.length_cons,List.range'_succ]
        rw [wpOpsIn_cons]
        rcases vop_ok hf h with ⟨g,wr,hd,hk'⟩|⟨g,p,hp,_,_,hpn⟩
        . exact decQ_wp (hΨ s) hI hc hi hd fun a' w' hc'=>ih l hm' (i+1) s _ a' w' hl' hc' hk'
        . exact absurd hp.symm hf
      | some y =>
        rw [hy] at h
        dsimp only at h
        cases hcd:(y.2 s st).1 with
        | false=>rw [hcd] at h;exact absurd h.symm hf
        | true =>
        rw [hcd] at h
        obtain ⟨⟨z0,hz0⟩,hall⟩:=outsOf_ok hf (show outsOf _ _=fin from h)
        have hlen:=(hlexQ_skip hf l (i+1) y.1 z0.1 z0.2 (hall z0 hz0)).1
        have e:List.range' i (o :: l).length=List.range' i (y.1+1)++List.range' (i+1+y.1) (l.drop y.1).length:=by
          have e1:(o :: l).length=(y.1+1)+(l.drop y.1).length:=by rw [List.length_cons,List.length_drop];omega
          have e2:i+1+y.1=i+1 * (y.1+1):=by omega
          rw [e1,e2,List.range'_append]
        rw [e]
        refine hD i y hy F M0 w0 n hI hpl Q _ s st a w hc hcd fun z hz a' w' hc'=>ih _ (by rw [List.length_drop];omega) _ z.1 z.2 a' w' (fun j=>?_) hc' (hlexQ_skip hf l (i+1) y.1 z.1 z.2 (hall z hz)).2
        rw [List.getElem?_drop,hl']
        congr 1
        omega
noncomputable def regQ (P:Program) (H:Hole) (Ψ:H.σ->Nat->List Spec) (hints:List (Nat×List Nat)) (D:Nat->Option (Nat×(H.σ->St->Bool×Outs H))) (id:Nat) (ops:Array Oper) {ρ:Type} (k:X->H.σ->St->Out ρ) (s:H.σ) (st:St):Out ρ :=
  hlexQ P H Ψ D ops (fun s st=>k .normal s st) ops.toList 0 0 s (frz P hints id (st.map dropS))
theorem regQ_ok {Ψ:H.σ->Nat->List Spec} (hΨ:∀ s g sp,sp∈Ψ s g->CallH P H s sp) (hints:List (Nat×List Nat)) {D:Nat->Option (Nat×(H.σ->St->Bool×Outs H))} {id:Nat} {ops:Array Oper} (hD:∀ i y,D i=some y->HandQ P H ops i y.1 y.2) :
    EOKH P H (.region id ops false) (fun {ρ} k s st=>regQ P H Ψ hints D id ops k s st):=by
  intro ρ fin hf hr F M0 w0 n hI hpl k Q hQ s st a w hc h
  obtain ⟨N0,hpn,hcl,hback⟩:=hc.lift
  have hc:=hback _ _ _ (hcl.frz (P:=P) (hints:=hints) (id:=id) fun j v hj=>(hpl j v (hpn j v hj)).elim)
  refine wpIn_region ?_
  have:=hlexQ_seq (F:=F) (M0:=M0) (w0:=w0) (n:=n) (ops:=ops) hΨ hI hpl hf (Q:=Q) hD (fun s st a w hc h=>hQ .normal s st a w hc h) _ ops.toList (Nat.le_refl _) 0 s _ a w (fun j=>by simp) hc h
  rw [List.range_eq_range']
  simpa using this
def baseH (B:Nat->Prop) (M:Mut) (w:World):Base:={ mu:=fun b o=>M b o/\b<w.heap.size/\¬ B b,ms:=M,ws:=w,pin:=fun _=>none,dm:=fun D=>¬ (D<w.heap.size/\¬ B D) }
theorem startH {M:Mut} {w:World} {vs:Array Value} {t:Ty} {x:t.den} {n:Nat} {s:H.σ} (h:RepT M w t vs.toList x) (hlt:∀ b o,M b o->b<w.heap.size) (hs:H.I s M w) (hh:∀ b,H.hb s w b->∀ o,M b o) :
    ConcH H (fun k=>k<w.heap.size/\¬ H.hb s w k) (baseH (H.hb s w) M w) w s (st0 n t x) { tmps:=vs++Array.replicate (n - vs.size) undef,defers:=[] } w:=by
  have hg:=start (n:=n) h hlt
  refine ⟨Fr.refl _ _,M,hs,⟨trivial,hg.size,fun b hb=>hb.1,fun b o h=>h.2,fun b o h=>h.1,hg.lt,fun b o hF hm=>⟨hm,hF⟩,hg.slot,hg.one,fun i k b ho hF=>hg.new i k b ho hF.1,stable_refl _ _,fun j v hj=>(by cases hj),fun D hD=>hD⟩,
    fun b hb=>⟨fun hF=>hF.2 hb,hh b hb,fun i k ho=>hg.new i k b ho (H.lt s M w b hs hb)⟩⟩
theorem calls_hole (hm:P.follows .mixedOrders=true) (hΦ:∀ g sp,sp∈Φ g->Contract P sp) {fnn:Nat} {fn:Func} {c:Code} (hfn:P.funcs[fnn]? = some fn) (hb:fn.body=some c) {T:List (List Nat×HdH H)} (hT:AllQ P H c T) {hints:List (Nat×List Nat)} {N:Nat}
    {arg res:Ty} {multi own:Bool} {s s':H.σ} {x:arg.den} {r:res.den} {M:Mut} {w:World} {vs:Array Value} (hI:∀ w',Fr (fun k=>k<w.heap.size/\¬ H.hb s w k) w w'->Inv.I P w') (hs:H.I s M w) (hvs:RepT M w arg vs.toList x) (hlt:∀ b o,M b o->b<w.heap.size) (hh:∀ b,H.hb s w b->∀ o,M b o)
    (h:vfnQ P H Φ hints N T fn multi own arg res s x = .ret (s',r)) :
    Calls P fnn vs w fun e w'=>∃ v,e = .returned v/\Fr (fun k=>k<w.heap.size/\¬ H.hb s w k) w w'/\(∀ b,H.hb s' w' b->H.hb s w b\/w.heap.size<=b) /\
      ∃ M',H.I s' M' w'/\(∀ b o,M b o->H.hb s w b\/M' b o)/\(∀ b o,M' b o->M b o\/(w.heap.size<=b/\b<w'.heap.size))/\(∀ b,H.hb s' w' b->∀ o,M' b o)/\SlotOK M' w' [] ⟨#[],[]⟩ v (mkRes multi own res r) /\
        ∀ b,ownS (mkRes multi own res r)=true->ownB v=some b->w.heap.size<=b\/H.hb s w b:=by
  have hst:=startH (n:=fn.ntmps) hvs hlt hs hh
  unfold vfnQ bodyOf at h
  rw [hb] at h
  refine callsIn_wide.1 (callsIn_of_wp_marks (n:=0) hfn hb trivial (vhq_ok hΦ hm hints N (by simp) (by simp) c T hT _ _ _ _ hI (fun j v hj=>by cases hj) _ _ ?_ s _ _ _ hst h))
  intro e s2 st a w' hc hk
  have key:(match vres P fn.results.toList multi own res st with | .ret r=>Out.ret (s2,r)|_=>.fail) = .ret (s',r)->LeavesInM Fence.wide 0 P fn a.tmps (fun e w'=>∃ v,e = .returned v/\Fr (fun k=>k<w.heap.size/\¬ H.hb s w k) w w'/\(∀ b,H.hb s' w' b->H.hb s w b\/w.heap.size<=b) /\
      ∃ M',H.I s' M' w'/\(∀ b o,M b o->H.hb s w b\/M' b o)/\(∀ b o,M' b o->M b o\/(w.heap.size<=b/\b<w'.heap.size))/\(∀ b,H.hb s' w' b->∀ o,M' b o)/\SlotOK M' w' [] ⟨#[],[]⟩ v (mkRes multi own res r) /\
        ∀ b,ownS (mkRes multi own res r)=true->ownB v=some b->w.heap.size<=b\/H.hb s w b) a.defers .returning w':=by
    intro hk
    split at hk
    rotate_left
    . cases hk
    rename_i r2 hv
    cases hk
    obtain ⟨hfr,M',hG⟩:=hc
    refine leave (M0:=apartB (baseH (H.hb s w) M w) (H.hb s' w') M' w') (F:=fun b=>(b<w.heap.size/\¬ H.hb s w b)\/H.hb s' w' b) (w0:=w') (st:=st) (by simp) (fun M2 w2 hg2 hf2=>?_) (fun D hD hF=>hF.elim hD.1 hD.2) a.defers M' w' hG.focus (Fr.refl _ _)
    obtain ⟨r',h1,v,h2,h3,h4⟩:=vres_ok (fn:=fn) hg2 (by simp) hv
    cases h1
    have hG2:=hG.unfocus hf2 hg2
    refine ⟨v,h2,v,rfl,hfr.trans (fr_left hf2),fun b hb=>?_,M2,hG2.1,fun b o hM=>?_,fun b o hM=>?_,fun b hb=>(hG2.2.2 b hb).2.1,h3,fun b h5 h6=>?_⟩
    . rcases Nat.lt_or_ge b w.heap.size with h5|h5
      . by_cases h6:H.hb s w b
        . exact .inl h6
        . exact absurd ⟨h5,h6⟩ (hG2.2.2 b hb).1
      . exact .inr h5
    . by_cases h6:H.hb s w b
      . exact .inl h6
      . exact .inr (hG2.2.1.up b o ⟨hM,hlt b o hM,h6⟩)
    . rcases Nat.lt_or_ge b w.heap.size with h5|h5
      . by_cases h6:H.hb s w b
        . exact .inl (hh b h6 o)
        . exact .inl (hG2.2.1.down b o ⟨h5,h6⟩ hM).1
      . exact .inr ⟨h5,hG2.2.1.lt b o hM⟩
    . have h7:=h4 b h5 h6
      rcases Nat.lt_or_ge b w.heap.size with h8|h8
      . by_cases h9:H.hb s w b
        . exact .inr h9
        . exact absurd (.inl ⟨h8,h9⟩) h7
      . exact .inl h8
  cases e with
  | normal=>exact key hk
  | ret=>exact key hk
  | exit i=>cases hk
theorem contract_hole (hm:P.follows .mixedOrders=true) {l:List Spec} (hl:∀ sp∈l,Contract P sp) {fnn:Nat} {arg res:Ty} {multi own:Bool} {f:arg.den->Out res.den} {fn:Func} {c:Code}
    (hfn:P.funcs[fnn]? = some fn) (hb:fn.body=some c) {T:List (List Nat×HdH H)} (hT:AllQ P H c T) (hints:List (Nat×List Nat)) {s:H.σ} (h0:∀ w b,¬ H.hb s w b) (hI0:∀ M w,H.I s M w) (hp:∀ x p,f x ≠ .pan p)
    (h:∀ x r,f x = .ret r->∃ n s',vfnQ P H (phi l) hints n T fn multi own arg res s x = .ret (s',r)):Contract P ⟨fnn,.call,arg,res,multi,own,f⟩:=by
  intro x M w vs hIw hvs hlt
  cases hx:f x with
  | fail=>simp only [hx]
  | pan p=>exact absurd hx (hp x p)
  | ret r =>
    simp only [hx]
    obtain ⟨n,s',hv⟩:=h x r hx
    refine (calls_hole hm (phi_ok hl) hfn hb hT (fun w' hw'=>Inv.below _ _ hIw (Fr.toBelow ⟨hw'.os,hw'.tape,hw'.output,hw'.size,fun k hk=>hw'.block k ⟨hk,h0 w k⟩⟩)) (hI0 M w) hvs hlt (fun b hB=>absurd hB (h0 w b)) hv).mono ?_
    rintro e w' ⟨v,rfl,h1,h3,M',h2,h4,h5,h6,h7,h8⟩
    exact ⟨v,rfl,Fr.toBelow ⟨h1.os,h1.tape,h1.output,h1.size,fun k hk=>h1.block k ⟨hk,h0 w k⟩⟩,M',fun b o hM=>(h4 b o hM).resolve_left (h0 w b),h5,h7,fun b h9 h10=>(h8 b h9 h10).resolve_right (h0 w b)⟩
end
end Go.V
namespace Go.V
open Go.RowKit (Below)
def Zf (F:Nat->Prop) (M0:Base):Prop:=∀ b,b<M0.ws.heap.size->F b
section
variable {P : Program} [Inv P] {H : Hole} {Φ : Nat → List Spec} {ρ : Type}
def EOKZ (P:Program) [Inv P] (H:Hole) (c:Code) (E:{ρ:Type}->(X->H.σ->St->Out ρ)->H.σ->St->Out ρ):Prop :=
  ∀ {ρ:Type} {fin:Out ρ} (_:fin ≠ .fail) (_:∀ p,fin ≠ .pan p) (F:Nat->Prop) (M0:Base) (w0:World) (n:Nat),Zf F M0->(∀ w,Fr F w0 w->Inv.I P w)->(∀ j v,M0.pin j=some v->False) ->
    ∀ (k:X->H.σ->St->Out ρ) (Q:Exit->Act->World->Prop),
      (∀ x s st a w,ConcH H F M0 w0 s st a w->k x s st=fin->Q x.exit' a w)->∀ s st a w,ConcH H F M0 w0 s st a w->E k s st=fin->c.wpIn (fen none) n P Q a w
def AllZ (P:Program) [Inv P] (H:Hole) (c:Code) (T:List (List Nat×HdH H)):Prop:=∀ e∈T,∃ c',codeAt e.1 c=some c'/\EOKZ P H c' (fun {ρ} k s st=>e.2.run (ρ:=ρ) k s st)
theorem allZ_nil {c:Code}:AllZ P H c []:=fun _ h=>absurd h List.not_mem_nil
theorem allZ_cons {c c':Code} {p:List Nat} {E:HdH H} {T:List (List Nat×HdH H)} (h1:codeAt p c=some c') (h2:EOKZ P H c' (fun {ρ} k s st=>E.run (ρ:=ρ) k s st)) (hT:AllZ P H c T):AllZ P H c ((p,E) :: T):=by
  intro e he
  rcases List.mem_cons.1 he with rfl|he
  . exact ⟨c',h1,h2⟩
  . exact hT e he
theorem AllZ.seq {a b:Code} {T:List (List Nat×HdH H)} (h:AllZ P H (.seq a b) T):AllZ P H a (subL 0 T)/\AllZ P H b (subL 1 T) :=
  ⟨fun e he=>h _ (mem_subL he),fun e he=>h _ (mem_subL he)⟩
theorem AllZ.cond {c:Operand} {a b:Code} {T:List (List Nat×HdH H)} (h:AllZ P H (.cond c a b) T):AllZ P H a (subL 0 T)/\AllZ P H b (subL 1 T) :=
  ⟨fun e he=>h _ (mem_subL he),fun e he=>h _ (mem_subL he)⟩
theorem allZ_consH {c c':Code} {p:List Nat} {E:HdH H} {T:List (List Nat×HdH H)} (h1:codeAt p c=some c') (h2:EOKH P H c' (fun {ρ} k s st=>E.run (ρ:=ρ) k s st)) (hT:AllZ P H c T):AllZ P H c ((p,E) :: T) :=
  allZ_cons h1 (fun hf hr F M0 w0 n _ hI hpl k Q hQ s st a w hc he=>h2 hf hr F M0 w0 n hI hpl k Q hQ s st a w hc he) hT
def HOKZ (P:Program) [Inv P] (H:Hole) (Φ:Nat->List Spec) (hints:List (Nat×List Nat)) (N:Nat) {ρ:Type} (fin:Out ρ) (c:Code):Prop :=
  ∀ (T:List (List Nat×HdH H)),AllZ P H c T->∀ (F:Nat->Prop) (M0:Base) (w0:World) (n:Nat),Zf F M0->(∀ w,Fr F w0 w->Inv.I P w)->(∀ j v,M0.pin j=some v->False) ->
    ∀ (k:X->H.σ->St->Out ρ) (Q:Exit->Act->World->Prop),
      (∀ x s st a w,ConcH H F M0 w0 s st a w->k x s st=fin->Q x.exit' a w)->∀ s st a w,ConcH H F M0 w0 s st a w->vhq P H Φ hints N c T k s st=fin->c.wpIn (fen none) n P Q a w
theorem pickZ_ok (hΦ:∀ g sp,sp∈Φ g->Contract P sp) (hm:P.follows .mixedOrders=true) (hints:List (Nat×List Nat)) (N:Nat) {fin:Out ρ} (hf:fin ≠ .fail) (hr:∀ p,fin ≠ .pan p) {c:Code} {T:List (List Nat×HdH H)} (hT:AllZ P H c T) {F:Nat->Prop} {M0:Base} {w0:World} {n:Nat} (hz:Zf F M0)
    (hI:∀ w,Fr F w0 w->Inv.I P w) (hpl:∀ j v,M0.pin j=some v->False) {k:X->H.σ->St->Out ρ} {Q:Exit->Act->World->Prop}
    (hQ:∀ x s st a w,ConcH H F M0 w0 s st a w->k x s st=fin->Q x.exit' a w) {s:H.σ} {st:St} {a:Act} {w:World} (hc:ConcH H F M0 w0 s st a w) {new:Out ρ} (h:pickQ T (vexec P Φ hints N c none (fun x st=>k x s st) st) (fun E=>E.run k s st) new=fin)
    (hnew:new=fin->c.wpIn (fen none) n P Q a w):c.wpIn (fen none) n P Q a w:=by
  unfold pickQ at h
  split at h
  . obtain ⟨N0,hpn,hcl,hback⟩:=hc.lift
    exact code_ok hΦ hm hints N hf c _ _ w none none n (fun _=>rfl) (hc.inv hI) (fun j v hj=>(hpl j v (hpn j v hj)).elim) (fun x st=>k x s st) Q (fun _ p q hp=>absurd hp (hr p)) (fun x st a w hc h=>hQ x s st a w (hback _ _ _ hc) h) st a w hcl h
  . split at h
    . rename_i E hE
      obtain ⟨c',e1,e2⟩:=hT _ (mem_hereL hE)
      cases e1
      exact e2 hf hr F M0 w0 n hz hI hpl k Q hQ s st a w hc h
    . exact hnew h
theorem vhz_ok (hΦ:∀ g sp,sp∈Φ g->Contract P sp) (hm:P.follows .mixedOrders=true) (hints:List (Nat×List Nat)) (N:Nat) {fin:Out ρ} (hf:fin ≠ .fail) (hr:∀ p,fin ≠ .pan p):∀ (c:Code),HOKZ P H Φ hints N fin c:=by
  intro c
  induction c with
  | seq x y ihx ihy =>
    intro T hT F M0 w0 n hz hI hpl k Q hQ s st a w hc h
    unfold vhq at h
    refine pickZ_ok hΦ hm hints N hf hr hT hz hI hpl hQ hc h fun h=>?_
    refine wpIn_seq (ihx _ hT.seq.1 F M0 w0 n hz hI hpl _ _ ?_ s st a w hc h)
    intro e s st a w hc h
    cases e with
    | normal=>exact ihy _ hT.seq.2 F M0 w0 n hz hI hpl k Q hQ s st a w hc h
    | exit i=>exact hQ (.exit i) s st a w hc h
    | ret=>exact hQ .ret s st a w hc h
  | cond c x y ihx ihy =>
    intro T hT F M0 w0 n hz hI hpl k Q hQ s st a w hc h
    unfold vhq at h
    refine pickZ_ok hΦ hm hints N hf hr hT hz hI hpl hQ hc h fun h=>?_
    split at h
    rotate_left
    . exact absurd h.symm hf
    rename_i v e
    obtain ⟨hb,M,hg⟩:=id hc
    refine wpIn_cond (slot_bool (e ▸ opnd_ok hg.2.1 c)) ?_
    cases v with
    | true =>
      dsimp only at h
      rw [setC_self e] at h
      exact ihx _ hT.cond.1 F M0 w0 n hz hI hpl k Q hQ s st a w hc h
    | false =>
      dsimp only at h
      rw [setC_self e] at h
      exact ihy _ hT.cond.2 F M0 w0 n hz hI hpl k Q hQ s st a w hc h
  | block id b ih =>
    intro T hT F M0 w0 n hz hI hpl k Q hQ s st a w hc h
    unfold vhq at h
    refine pickZ_ok hΦ hm hints N hf hr hT hz hI hpl hQ hc h fun h=>?_
    refine wpIn_block (ih _ (fun e he=>hT _ (mem_subL he)) F M0 w0 n hz hI hpl _ _ ?_ s st a w hc h)
    intro x s st a w hc h
    cases x with
    | normal=>exact hQ .normal s st a w hc h
    | ret=>exact hQ .ret s st a w hc h
    | exit i =>
      show if i=id then _ else _
      dsimp only at h
      split
      . rename_i e;rw [if_pos e] at h;exact hQ .normal s st a w hc h
      . rename_i e;rw [if_neg e] at h;exact hQ (.exit i) s st a w hc h
  | loop b ih =>
    intro T hT F M0 w0 n hz hI hpl k Q hQ s st a w hc h
    unfold vhq at h
    refine pickZ_ok hΦ hm hints N hf hr hT hz hI hpl hQ hc h fun h=>?_
    have key:∀ m s st a w,ConcH H F M0 w0 s st a w->iterQ (fun k' s st=>vhq P H Φ hints N b (subL 0 T) k' s st) (Go.V.maskOf hints b) k m s st=fin->Code.roundsIn (fen none) n P b Q m a w:=by
      intro m
      induction m with
      | zero=>intro s st a w _ h;exact absurd h.symm hf
      | succ m ihm =>
        intro s st a w hc h
        refine ih _ (fun e he=>hT _ (mem_subL he)) F M0 w0 n hz hI hpl _ _ ?_ s st a w hc h
        intro x s st a w hc h
        cases x with
        | normal=>exact ihm s _ a w (hc.maskOf hpl) h
        | exit i=>exact hQ (.exit i) s st a w hc h
        | ret=>exact hQ .ret s st a w hc h
    exact wpIn_loop_rounds N (key N s _ a w (hc.maskOf hpl) h)
  | scope b ih =>
    intro T hT F M0 w0 n hz hI hpl k Q hQ s st a w hc h
    unfold vhq at h
    refine pickZ_ok hΦ hm hints N hf hr hT hz hI hpl hQ hc h fun h=>?_
    refine wpIn_wide.2 (wp_scope_straight ((wpIn_wide (n:=n)).1 (ih _ (fun e he=>hT _ (mem_subL he)) F M0 w0 n hz hI hpl k _ ?_ s st a w hc h)))
    intro x s st a w hc h
    have:=hQ x s st a w hc h
    cases x<;>exact this
  | _ =>
    intro T hT F M0 w0 n hz hI hpl k Q hQ s st a w hc h
    unfold vhq at h
    exact pickZ_ok hΦ hm hints N hf hr hT hz hI hpl hQ hc h fun h=>absurd h.symm hf
theorem calls_holeZ (hm:P.follows .mixedOrders=true) (hΦ:∀ g sp,sp∈Φ g->Contract P sp) {fnn:Nat} {fn:Func} {c:Code} (hfn:P.funcs[fnn]? = some fn) (hb:fn.body=some c) {T:List (List Nat×HdH H)} (hT:AllZ P H c T) {hints:List (Nat×List Nat)} {N:Nat}
    {arg res:Ty} {multi own:Bool} {s s':H.σ} {x:arg.den} {r:res.den} {M:Mut} {w:World} {vs:Array Value} (hI:∀ w',Fr (fun k=>k<w.heap.size/\¬ H.hb s w k) w w'->Inv.I P w') (h0:∀ b,¬ H.hb s w b) (hs:H.I s M w) (hvs:RepT M w arg vs.toList x) (hlt:∀ b o,M b o->b<w.heap.size) (hh:∀ b,H.hb s w b->∀ o,M b o)
    (h:vfnQ P H Φ hints N T fn multi own arg res s x = .ret (s',r)) :
    Calls P fnn vs w fun e w'=>∃ v,e = .returned v/\Fr (fun k=>k<w.heap.size/\¬ H.hb s w k) w w'/\(∀ b,H.hb s' w' b->H.hb s w b\/w.heap.size<=b) /\
      ∃ M',H.I s' M' w'/\(∀ b o,M b o->H.hb s w b\/M' b o)/\(∀ b o,M' b o->M b o\/(w.heap.size<=b/\b<w'.heap.size))/\(∀ b,H.hb s' w' b->∀ o,M' b o)/\SlotOK M' w' [] ⟨#[],[]⟩ v (mkRes multi own res r) /\
        ∀ b,ownS (mkRes multi own res r)=true->ownB v=some b->w.heap.size<=b\/H.hb s w b:=by
  have hst:=startH (n:=fn.ntmps) hvs hlt hs hh
  unfold vfnQ bodyOf at h
  rw [hb] at h
  refine callsIn_wide.1 (callsIn_of_wp_marks (n:=0) hfn hb trivial (vhz_ok hΦ hm hints N (by simp) (by simp) c T hT _ _ _ _ (fun b hb=>⟨hb,h0 b⟩) hI (fun j v hj=>by cases hj) _ _ ?_ s _ _ _ hst h))
  intro e s2 st a w' hc hk
  have key:(match vres P fn.results.toList multi own res st with | .ret r=>Out.ret (s2,r)|_=>.fail) = .ret (s',r)->LeavesInM Fence.wide 0 P fn a.tmps (fun e w'=>∃ v,e = .returned v/\Fr (fun k=>k<w.heap.size/\¬ H.hb s w k) w w'/\(∀ b,H.hb s' w' b->H.hb s w b\/w.heap.size<=b) /\
      ∃ M',H.I s' M' w'/\(∀ b o,M b o->H.hb s w b\/M' b o)/\(∀ b o,M' b o->M b o\/(w.heap.size<=b/\b<w'.heap.size))/\(∀ b,H.hb s' w' b->∀ o,M' b o)/\SlotOK M' w' [] ⟨#[],[]⟩ v (mkRes multi own res r) /\
        ∀ b,ownS (mkRes multi own res r)=true->ownB v=some b->w.heap.size<=b\/H.hb s w b) a.defers .returning w':=by
    intro hk
    split at hk
    rotate_left
    . cases hk
    rename_i r2 hv
    cases hk
    obtain ⟨hfr,M',hG⟩:=hc
    refine leave (M0:=apartB (baseH (H.hb s w) M w) (H.hb s' w') M' w') (F:=fun b=>(b<w.heap.size/\¬ H.hb s w b)\/H.hb s' w' b) (w0:=w') (st:=st) (by simp) (fun M2 w2 hg2 hf2=>?_) (fun D hD hF=>hF.elim hD.1 hD.2) a.defers M' w' hG.focus (Fr.refl _ _)
    obtain ⟨r',h1,v,h2,h3,h4⟩:=vres_ok (fn:=fn) hg2 (by simp) hv
    cases h1
    have hG2:=hG.unfocus hf2 hg2
    refine ⟨v,h2,v,rfl,hfr.trans (fr_left hf2),fun b hb=>?_,M2,hG2.1,fun b o hM=>?_,fun b o hM=>?_,fun b hb=>(hG2.2.2 b hb).2.1,h3,fun b h5 h6=>?_⟩
    . rcases Nat.lt_or_ge b w.heap.size with h5|h5
      . by_cases h6:H.hb s w b
        . exact .inl h6
        . exact absurd ⟨h5,h6⟩ (hG2.2.2 b hb).1
      . exact .inr h5
    . by_cases h6:H.hb s w b
      . exact .inl h6
      . exact .inr (hG2.2.1.up b o ⟨hM,hlt b o hM,h6⟩)
    . rcases Nat.lt_or_ge b w.heap.size with h5|h5
      . by_cases h6:H.hb s w b
        . exact .inl (hh b h6 o)
        . exact .inl (hG2.2.1.down b o ⟨h5,h6⟩ hM).1
      . exact .inr ⟨h5,hG2.2.1.lt b o hM⟩
    . have h7:=h4 b h5 h6
      rcases Nat.lt_or_ge b w.heap.size with h8|h8
      . by_cases h9:H.hb s w b
        . exact .inr h9
        . exact absurd (.inl ⟨h8,h9⟩) h7
      . exact .inl h8
  cases e with
  | normal=>exact key hk
  | ret=>exact key hk
  | exit i=>cases hk
theorem contract_holeZ (hm:P.follows .mixedOrders=true) {l:List Spec} (hl:∀ sp∈l,Contract P sp) {fnn:Nat} {arg res:Ty} {multi own:Bool} {f:arg.den->Out res.den} {fn:Func} {c:Code}
    (hfn:P.funcs[fnn]? = some fn) (hb:fn.body=some c) {T:List (List Nat×HdH H)} (hT:AllZ P H c T) (hints:List (Nat×List Nat)) {s:H.σ} (h0:∀ w b,¬ H.hb s w b) (hI0:∀ M w,H.I s M w) (hp:∀ x p,f x ≠ .pan p)
    (h:∀ x r,f x = .ret r->∃ n s',vfnQ P H (phi l) hints n T fn multi own arg res s x = .ret (s',r)):Contract P ⟨fnn,.call,arg,res,multi,own,f⟩:=by
  intro x M w vs hIw hvs hlt
  cases hx:f x with
  | fail=>simp only [hx]
  | pan p=>exact absurd hx (hp x p)
  | ret r =>
    simp only [hx]
    obtain ⟨n,s',hv⟩:=h x r hx
    refine (calls_holeZ hm (phi_ok hl) hfn hb hT (fun w' hw'=>Inv.below _ _ hIw (Fr.toBelow ⟨hw'.os,hw'.tape,hw'.output,hw'.size,fun k hk=>hw'.block k ⟨hk,h0 w k⟩⟩)) (h0 w) (hI0 M w) hvs hlt (fun b hB=>absurd hB (h0 w b)) hv).mono ?_
    rintro e w' ⟨v,rfl,h1,h3,M',h2,h4,h5,h6,h7,h8⟩
    exact ⟨v,rfl,Fr.toBelow ⟨h1.os,h1.tape,h1.output,h1.size,fun k hk=>h1.block k ⟨hk,h0 w k⟩⟩,M',fun b o hM=>(h4 b o hM).resolve_left (h0 w b),h5,h7,fun b h9 h10=>(h8 b h9 h10).resolve_right (h0 w b)⟩
theorem contract_dropZ' {H:Hole} (s0:H.σ) (h0:∀ w b,¬ H.hb s0 w b) (hI0:∀ M w,H.I s0 M w) (hm:P.follows .mixedOrders=true) {l:List Spec} (hl:∀ sp∈l,Contract P sp) {fnn:Nat} {arg res:Ty} {multi own:Bool} {f:arg.den->Out res.den} {F:arg.den->Out (H.σ×res.den)} {fn:Func} {c:Code}
    (hfn:P.funcs[fnn]? = some fn) (hb:fn.body=some c) {T:List (List Nat×HdH H)} (hT:AllZ P H c T) (hints:List (Nat×List Nat)) (n:Nat)
    (h:∀ x,vfnQ P H (phi l) hints n T fn multi own arg res s0 x=F x) (hp:∀ x p,f x ≠ .pan p) (hF:∀ x r,f x = .ret r->∃ s,F x = .ret (s,r)):Contract P ⟨fnn,.call,arg,res,multi,own,f⟩ :=
  contract_holeZ (s:=s0) hm hl hfn hb hT hints h0 hI0 hp fun x r hr=>by
    obtain ⟨s',hs⟩:=hF x r hr
    exact ⟨n,s',(h x).trans hs⟩
end
end Go.V
namespace Go.V
open Go.RowKit (Below)
def lastOK (ops:Array Oper) (m:Nat):Bool:=(ops.size==m) || ((ops.size==m+1) && (List.range m).all fun j=>waitsT ops j m)
noncomputable def regAnyQ (P:Program) (H:Hole) (Ψ:H.σ->Nat->List Spec) (hints:List (Nat×List Nat)) (m:Nat) (last:Option (H.σ->St->Bool×Outs H)) (id:Nat) (ops:Array Oper) {ρ:Type} (k:X->H.σ->St->Out ρ) (s:H.σ) (st:St):Out ρ :=
  vdraw P (Ψ s) ops (fun acc pp st'=>bif early ops && apartAll ops 0 acc.reverse && lastOK ops m && (ops.size==(bif last.isSome then m+1 else m)) then (match pp with
    | none=>(match last with
      | none=>k .normal s st'
      | some g=>bif (g s st').1 then outsOf (fun z=>k .normal z.1 z.2) (g s st').2 else .fail)
    | some _=>.fail) else .fail) (ops.toList.take m) 0 [] 0 none (frz P hints id (st.map dropS))
section
variable {P : Program} [Inv P] {H : Hole} {ρ : Type}
theorem anyQ_ok {s:H.σ} {Φ:Nat->List Spec} (hΦ:∀ g sp,sp∈Φ g->CallH P H s sp) {F:Nat->Prop} {M0:Base} {w0:World} (hI:∀ w,Fr F w0 w->Inv.I P w) {n:Nat} {ops:Array Oper} {p:Value} {rs:List Rec} {m:Nat} {st:St} (hlen:rs.length=m) (hm:lastOK ops m=true)
    (hch:Chain P Φ ops (Tr ops) p rs (ops.toList.take m) rs 0 st) (hap:Apart (Tr ops) (rs.map Rec.pr)) (he:early ops=true) {Q:Exit->Act->World->Prop} (hout:∀ r∈rs,r.out=false)
    (hend:∀ fuel (L:Array Bool) a w,L.size=ops.size->L.toList.countP (!·)<=fuel->(∀ j,j<m->L.getD j false=true)->(ops.size=m+1->L.getD m false=false)->ConcH H F M0 w0 s (stL (fun _=>true) (rs.map Rec.pr) 0 st) a w->wpAnyIn (fen none) n P .any ops Q fuel L a w) :
    ∀ (fuel:Nat) (L:Array Bool) (a:Act) (w:World),L.size=ops.size->Closed ops L->L.toList.countP (!·)<=fuel->(ops.size=m+1->L.getD m false=false)->ConcH H F M0 w0 s (stL (fun i=>L.getD i false) (rs.map Rec.pr) 0 st) a w->wpAnyIn (fen none) n P .any ops Q fuel L a w:=by
  have hlen':(rs.map Rec.pr).length=m:=by simpa using hlen
  have hsz:ops.size=m\/(ops.size=m+1/\∀ j,j<m->Tr ops j m):=by
    unfold lastOK at hm
    rcases Bool.or_eq_true_iff.1 hm with h|h
    . exact .inl (by simpa using h)
    . rw [Bool.and_eq_true] at h
      refine .inr ⟨by simpa using h.1,fun j hj=>?_⟩
      have:=List.all_eq_true.1 h.2 j (List.mem_range.2 hj)
      exact masks_ok ops.toList [] (fun k o hk=>by simpa using hk) (fun j i h=>by simp at h) m j this
  have hle:m<=ops.size:=by rcases hsz with h|⟨h,_⟩<;>omega
  intro fuel
  induction fuel with
  | zero =>
    intro L a w hs hcl hct hlast hc
    refine hend 0 L a w hs hct (fun j hj=>?_) hlast ?_
    . cases hL:L.getD j false with
      | true=>rfl
      | false =>
        exfalso
        have hlt:j<L.size:=by omega
        have h3:L[j]=false:=by simpa [hlt] using hL
        have:0<L.toList.countP (!·):=List.countP_pos_iff.2 ⟨L[j],by simp,by rw [h3];rfl⟩
        omega
    . have:stL (fun _=>true) (rs.map Rec.pr) 0 st=stL (fun i=>L.getD i false) (rs.map Rec.pr) 0 st:=by
        apply stL_ext (by rw [length_stL,length_stL])
        intro t ht
        rw [length_stL] at ht
        rw [get_stL _ _ _ _ ht,get_stL _ _ _ _ ht]
        refine lastL_congr _ _ _ fun j r hj _=>?_
        have hlt:j<(rs.map Rec.pr).length:=(List.getElem?_eq_some_iff.1 hj).1
        have hltL:j<L.size:=by omega
        rw [Nat.zero_add]
        cases hL:L.getD j false with
        | true=>rfl
        | false =>
          exfalso
          have h3:L[j]=false:=by simpa [hltL] using hL
          have:0<L.toList.countP (!·):=List.countP_pos_iff.2 ⟨L[j],by simp,by rw [h3];rfl⟩
          omega
      rw [this];exact hc
  | succ fuel ih =>
    intro L a w hs hcl hct hlast hc
    by_cases hall:∀ j,j<m->L.getD j false=true
    . refine hend (fuel+1) L a w hs hct hall hlast ?_
      have:stL (fun _=>true) (rs.map Rec.pr) 0 st=stL (fun i=>L.getD i false) (rs.map Rec.pr) 0 st:=by
        apply stL_ext (by rw [length_stL,length_stL])
        intro t ht
        rw [length_stL] at ht
        rw [get_stL _ _ _ _ ht,get_stL _ _ _ _ ht]
        refine lastL_congr _ _ _ fun j r hj _=>?_
        have hlt:j<(rs.map Rec.pr).length:=(List.getElem?_eq_some_iff.1 hj).1
        rw [Nat.zero_add,hall j (by omega)]
      rw [this];exact hc
    obtain ⟨j0,hj0,hjf⟩:∃ j,j<m/\L.getD j false=false:=by
      apply Classical.byContradiction
      intro hn
      apply hall
      intro j hj
      cases hL:L.getD j false with
      | true=>rfl
      | false=>exact absurd ⟨j,hj,hL⟩ hn
    refine ⟨fun hr=>?_,fun i hi=>?_⟩
    . have:=ready_all he hs hr (j0+1) j0 (by omega) (by omega)
      rw [hjf] at this;cases this
    obtain ⟨h1,h2,h3⟩:=ready_mem hi
    have him:i<m:=by
      rcases hsz with h|⟨h,hw⟩
      . omega
      . rcases Nat.lt_or_ge i m with h'|h'
        . exact h'
        . have e:i=m:=by omega
          subst e
          have:=ready_tr hcl h3 (hw j0 hj0)
          rw [hjf] at this;cases this
    have hltL:i<L.size:=by omega
    have hfalse:L[i]=false:=by simpa [hltL] using h2
    have hnot:L.getD i false=false:=by simpa [hltL] using hfalse
    obtain ⟨o,ho⟩:∃ o,ops[i]? = some o:=⟨ops[i],by simp [h1]⟩
    obtain ⟨r0,hr0⟩:∃ r,rs[i]? = some r:=⟨rs[i],by simp [hlen,him]⟩
    have hr:(rs.map Rec.pr)[i]? = some r0.pr:=by simp [hr0]
    have hot:(ops.toList.take m)[i]? = some o:=by rw [List.getElem?_take,if_pos him];simpa using ho
    have hdec:=chain_dec (ops.toList.take m) rs st 0 i o r0 hch hot hr0
    rw [Nat.zero_add] at hdec
    have hsame:∀ t,r0.g.testBit t=true->get (stL (fun i=>L.getD i false) (rs.map Rec.pr) 0 st) t=get (stL (fun j=>decide (j<i)) (rs.map Rec.pr) 0 st) t:=fun t ht=>by
      rcases Nat.lt_or_ge t st.length with hlt|hge
      . rw [get_stL _ _ _ _ hlt,get_stL _ _ _ _ hlt]
        refine lastL_congr _ _ _ fun j r' hj hb=>?_
        rw [Nat.zero_add]
        rcases Nat.lt_trichotomy j i with hji|rfl|hji
        . rcases hap j i r' r0.pr hji hj hr with hw|⟨hw,_⟩
          . rw [ready_tr hcl h3 hw];simp [hji]
          . have:=and_zero_bit hw hb
            have ht':(r0.pr.1).testBit t=true:=ht
            rw [Nat.testBit_or,ht'] at this
            simp at this
        . rw [hnot];simp
        . have hd:decide (j<i)=false:=by simp;omega
          rw [hd]
          rcases hap i j r0.pr r' hji hr hj with hw|⟨_,hw⟩
          . cases hL:L.getD j false with
            | false=>rfl
            | true=>exact absurd (closed_tr hcl hw hL) (by rw [hnot];simp)
          . have:=and_zero_bit hw ht
            rw [hb] at this
            simp at this
      . rw [get_oob (by rw [length_stL];exact hge),get_oob (by rw [length_stL];exact hge)]
    have hout0:r0.out=false:=hout _ (List.mem_of_getElem? hr0)
    have hdec':Dec P Φ ops o (stL (fun i=>L.getD i false) (rs.map Rec.pr) 0 st) r0.g r0.wr:=(hdec.1 hout0).same hsame
    obtain ⟨r,hrr⟩:∃ r,r=r0.pr:=⟨_,rfl⟩
    rw [<- hrr] at hr
    have hdec':Dec P Φ ops o (stL (fun i=>L.getD i false) (rs.map Rec.pr) 0 st) r.1 r.2:=by rw [hrr];exact hdec'
    refine decQ_wp hΦ hI hc ho hdec' fun a' w' hc'=>ih _ a' w' (by simp [hs]) ?_ ?_ ?_ ?_
    . intro x y hw hy
      rw [getD_set hltL] at hy ⊢
      rcases Bool.or_eq_true_iff.1 hy with hy|hy
      . rw [hcl x y hw hy];rfl
      . simp only [beq_iff_eq] at hy
        subst hy
        rw [h3 x hw];rfl
    . have h4:=count_set L.toList i (by simp [hltL,hfalse])
      have:(L.setIfInBounds i true).toList=L.toList.set i true:=by simp
      rw [this]
      omega
    . intro hms
      rw [getD_set hltL,hlast hms]
      have:(m==i)=false:=by simp;omega
      rw [this];rfl
    . have:stL (fun i_1=>(L.setIfInBounds i true).getD i_1 false) (rs.map Rec.pr) 0 st=app r.2 (stL (fun i=>L.getD i false) (rs.map Rec.pr) 0 st):=by
        apply stL_ext (by rw [length_stL,length_app,length_stL])
        intro t ht
        rw [length_stL] at ht
        rw [get_stL _ _ _ _ ht,get_app _ _ _ (by rw [length_stL];exact ht),get_stL _ _ _ _ ht]
        have hfn:(fun j=>(L.setIfInBounds i true).getD j false)=fun j=>L.getD j false || j==i:=funext fun j=>getD_set hltL
        rw [hfn]
        cases hb:(wmask r.2).testBit t with
        | true =>
          have:=lastL_add (L:=fun j=>L.getD j false) hb (lastL (fun i=>L.getD i false) t (rs.map Rec.pr) 0 (get st t)) (rs.map Rec.pr) i 0 (get st t) hr fun j r' hj hj' hb'=>by
            rw [Nat.zero_add]
            rcases hap i j r r' hj hr hj' with hw|⟨hw,_⟩
            . cases hL:L.getD j false with
              | false=>rfl
              | true=>exact absurd (closed_tr hcl hw hL) (by rw [hnot];simp)
            . have:=and_zero_bit hw hb
              rw [Nat.testBit_or,hb'] at this
              simp at this
          rw [Nat.zero_add] at this
          exact this
        | false =>
          rw [last_skip hb]
          refine lastL_congr _ _ _ fun j r' hj hb'=>?_
          rw [Nat.zero_add]
          by_cases e:j=i
          . subst e
            rw [hr] at hj
            cases hj
            rw [hb] at hb'
            cases hb'
          . have:(j==i)=false:=by simpa using e
            rw [this,Bool.or_false]
      rw [this]
      exact hc'
theorem any_done {ops:Array Oper} {Q:Exit->Act->World->Prop} {n:Nat} {L:Array Bool} (h:∀ j,j<ops.size->L.getD j false=true) {a:Act} {w:World} (hQ:Q .normal a w):∀ fuel,wpAnyIn (fen none) n P .any ops Q fuel L a w:=by
  have hr:Region.ready .any ops L=[]:=by
    apply List.eq_nil_iff_forall_not_mem.2
    intro i hi
    obtain ⟨h1,h2,_⟩:=ready_mem hi
    have h3:=h i h1
    rw [Array.getD_eq_getD_getElem?] at h2 h3
    cases e:L[i]? <;> rw [e] at h2 h3<;>simp at h2 h3
    rw [h3] at h2;cases h2
  intro fuel
  cases fuel with
  | zero=>exact ⟨hr,hQ⟩
  | succ fuel=>exact ⟨fun _=>hQ,fun i hi=>by rw [hr] at hi;cases hi⟩
theorem regAnyQ_ok (hmx:P.follows .mixedOrders=true) {Ψ:H.σ->Nat->List Spec} (hΨ:∀ s g sp,sp∈Ψ s g->CallH P H s sp) (hints:List (Nat×List Nat)) {m:Nat} {last:Option (H.σ->St->Bool×Outs H)} {id:Nat} {ops:Array Oper} (hD:∀ g,last=some g->HandOp P H ops m g) :
    EOKH P H (.region id ops true) (fun {ρ} k s st=>regAnyQ P H Ψ hints m last id ops k s st):=by
  intro ρ fin hf hr F M0 w0 n hI hpl k Q hQ s st a w hc h
  obtain ⟨N0,hpn,hcl,hback⟩:=hc.lift
  have hc:=hback _ _ _ (hcl.frz (P:=P) (hints:=hints) (id:=id) fun j v hj=>(hpl j v (hpn j v hj)).elim)
  have h:regAnyQ P H Ψ hints m last id ops k s st=fin:=h
  unfold regAnyQ at h
  generalize hst1:frz P hints id (st.map dropS)=st1 at h hc
  obtain ⟨rs,pp',h1,h2,_,h4,h5,h6⟩:=vdraw_chain hf (ops.toList.take m) [] 0 none st1 (fun j hj=>by simp at hj) (fun _=>rfl) h
  simp only [List.nil_append,List.reverse_reverse,List.length_nil] at h2 h6
  cases hb:(early ops && apartAll ops 0 (rs.map Rec.mask) && lastOK ops m && (ops.size==(bif last.isSome then m+1 else m))) with
  | false=>rw [hb] at h2;exact absurd h2.symm hf
  | true =>
  rw [hb] at h2
  simp only [Bool.and_eq_true] at hb
  obtain ⟨⟨⟨hb1,hb2⟩,hb3⟩,hb4⟩:=hb
  have hle:m<=ops.size:=by
    unfold lastOK at hb3
    rcases Bool.or_eq_true_iff.1 hb3 with h|h
    . have:ops.size=m:=by simpa using h
      omega
    . rw [Bool.and_eq_true] at h
      have:ops.size=m+1:=by simpa using h.1
      omega
  have hsz:rs.length=m:=by rw [h1,List.length_take];simp;omega
  have hmask:rs.map Rec.mask=(rs.map Rec.pr).map fun r=>(r.1,wmask r.2):=by rw [List.map_map];rfl
  cases hpp:pp' with
  | some p=>rw [hpp] at h2;exact absurd h2.symm hf
  | none =>
  have hall:=h4 hpp
  rw [hpp] at h2
  dsimp only [cond_true] at h2
  refine wpIn_region_any hmx (anyQ_ok (st:=st1) (M0:=M0) (w0:=w0) (hΨ s) hI hsz hb3 (h6 .nilIface (.inl hpp)) (apart_of (by rw [<- hmask];exact hb2)) hb1 hall ?_ _ _ _ _ (by simp) ?_ ?_ ?_ ?_)
  . intro fuel L a w hs hct hj hlast hc'
    rw [stL_true,fold_pr] at hc'
    cases hl:last with
    | none =>
      rw [hl] at h2 hb4
      have hms:ops.size=m:=by simpa using hb4
      exact any_done (fun j hjs=>hj j (by omega)) (hQ .normal s _ a w hc' h2) fuel
    | some g =>
      rw [hl] at h2 hb4
      have hms:ops.size=m+1:=by simpa using hb4
      have hL:=hlast hms
      dsimp only at h2
      cases hcd:(g s (rs.foldl (fun st r=>app r.wr st) st1)).1 with
      | false=>rw [hcd] at h2;exact absurd h2.symm hf
      | true =>
      rw [hcd] at h2
      obtain ⟨_,hallz⟩:=outsOf_ok hf (show outsOf _ _=fin from h2)
      have hltL:m<L.size:=by omega
      have hnr:Region.ready .any ops L≠[]:=fun hr=>by
        have:=ready_all hb1 hs hr (m+1) m (by omega) (by omega)
        rw [hL] at this;cases this
      cases fuel with
      | zero =>
        exfalso
        have h3:L[m]=false:=by simpa [hltL] using hL
        have:0<L.toList.countP (!·):=List.countP_pos_iff.2 ⟨L[m],by simp,by rw [h3];rfl⟩
        omega
      | succ fuel =>
        refine ⟨fun hr=>absurd hr hnr,fun i hi=>?_⟩
        obtain ⟨g1,g2,g3⟩:=ready_mem hi
        have e:i=m:=by
          rcases Nat.lt_or_ge i m with h'|h'
          . have h3:=hj i h'
            rw [Array.getD_eq_getD_getElem?] at g2 h3
            cases e:L[i]? <;> rw [e] at g2 h3<;>simp at g2 h3
            rw [h3] at g2;cases g2
          . omega
        subst e
        refine hD g hl F M0 w0 n hI hpl Q _ s _ a w hc' hcd fun z hz a' w' hc''=>any_done (fun j hjs=>?_) (hQ .normal z.1 z.2 a' w' hc'' (hallz z hz)) fuel
        rw [getD_set hltL]
        rcases Nat.lt_or_ge j i with h'|h'
        . rw [hj j h'];rfl
        . have:j=i:=by omega
          subst this;simp
  . intro i j _ hj
    simp only [Array.getD_eq_getD_getElem?,Array.getElem?_replicate] at hj
    split at hj<;>simp at hj
  . exact Nat.le_trans List.countP_le_length (by simp)
  . intro _
    simp only [Array.getD_eq_getD_getElem?,Array.getElem?_replicate]
    split<;>rfl
  . have:stL (fun i=>(Array.replicate ops.size false).getD i false) (rs.map Rec.pr) 0 st1=st1:=by
      apply stL_ext (length_stL ..)
      intro t ht
      rw [length_stL] at ht
      rw [get_stL _ _ _ _ ht]
      refine lastL_none _ _ _ fun j _ _ _=>?_
      simp only [Array.getD_eq_getD_getElem?,Array.getElem?_replicate]
      split<;>rfl
    rw [this]
    obtain ⟨N1,_,hcl1,hback1⟩:=hc.lift
    obtain ⟨hb,M,hg⟩:=hcl1
    exact hback1 _ _ _ ⟨hb.drew,M,hg.drew⟩
end
end Go.V
namespace Go.V
open Go.Proofs
open Go.RowKit (Below)
def H0:Hole where
  σ:=Unit
  hb _ _ _:=False
  I _ _ _:=True
  keep _ _ _ _ _ _ _ _:=trivial
  same _ _ _ _ _ _ _ h:=h
  lt _ _ _ _ _ h:=h.elim
  nd _ _ _ _ _ _ h:=h.elim
def dropG {σ α:Type}:Out (σ×α)->Out α
  | .ret (_,r)=>.ret r
  | _=>.fail
theorem dropG_ret {σ α:Type} {o:Out (σ×α)} {r:α} (h:dropG o = .ret r):∃ s,o = .ret (s,r):=by
  unfold dropG at h
  split at h
  . cases h;exact ⟨_,rfl⟩
  . cases h
theorem dropG_pan {σ α:Type} {o:Out (σ×α)} {p:Value} (h:dropG o = .pan p):False:=by
  unfold dropG at h
  split at h<;>cases h
theorem contract_drop {H:Hole} (s0:H.σ) (h0:∀ w b,¬ H.hb s0 w b) (hI0:∀ M w,H.I s0 M w) {l:List Spec} (hl:∀ sp∈l,Contract Try.prog sp) {fnn:Nat} {arg res:Ty} {multi own:Bool} {F:arg.den->Out (H.σ×res.den)} {fn:Func} {c:Code}
    (hfn:Try.prog.funcs[fnn]? = some fn) (hb:fn.body=some c) {T:List (List Nat×HdH H)} (hT:AllQ Try.prog H c T) (hints:List (Nat×List Nat)) (n:Nat)
    (h:∀ x,vfnQ Try.prog H (phi l) hints n T fn multi own arg res s0 x=F x):Contract Try.prog ⟨fnn,.call,arg,res,multi,own,fun x=>dropG (F x)⟩:=by
  refine contract_hole (s:=s0) mixed hl hfn hb hT hints h0 hI0 (fun x p hp=>dropG_pan hp) fun x r hr=>?_
  obtain ⟨s',hs⟩:=dropG_ret hr
  exact ⟨n,s',(h x).trans hs⟩
theorem contract_dropZ {H:Hole} (s0:H.σ) (h0:∀ w b,¬ H.hb s0 w b) (hI0:∀ M w,H.I s0 M w) {l:List Spec} (hl:∀ sp∈l,Contract Try.prog sp) {fnn:Nat} {arg res:Ty} {multi own:Bool} {F:arg.den->Out (H.σ×res.den)} {fn:Func} {c:Code}
    (hfn:Try.prog.funcs[fnn]? = some fn) (hb:fn.body=some c) {T:List (List Nat×HdH H)} (hT:AllZ Try.prog H c T) (hints:List (Nat×List Nat)) (n:Nat)
    (h:∀ x,vfnQ Try.prog H (phi l) hints n T fn multi own arg res s0 x=F x):Contract Try.prog ⟨fnn,.call,arg,res,multi,own,fun x=>dropG (F x)⟩ :=
  contract_dropZ' s0 h0 hI0 mixed hl hfn hb hT hints n h (fun x p hp=>dropG_pan hp) fun x r hr=>dropG_ret hr
noncomputable def handQ {H:Hole} (g:Hand) (s:H.σ) (st:St):Bool×Outs H:=match g st with|some st'=>(true,.some [(s,st')])|none=>(false,.some [])
theorem handQ_ok {P:Program} [Inv P] {H:Hole} {ops:Array Oper} {i c:Nat} {g:Hand} (h:HandOK P ops i c g):HandQ P H ops i c (handQ g):=by
  intro F M0 w0 n hI hpl Q rest s st a w hc h1 hK
  unfold handQ at h1 hK
  cases hg:g st with
  | none=>rw [hg] at h1;cases h1
  | some st' =>
    rw [hg] at hK
    obtain ⟨N0,hpn,hcl,hback⟩:=hc.lift
    exact h _ N0 w n (hc.inv hI) (fun j v hj=>hpl j v (hpn j v hj)) Q rest st a w st' hcl hg fun a' w' hc'=>hK (s,st') (List.mem_singleton.2 rfl) a' w' (hback _ _ _ hc')
end Go.V
namespace Go.V
open Go.Proofs
open Go.RowKit (Below)
theorem GoodH.world {H:Hole} {F:Nat->Prop} {M0:Base} {s s':H.σ} {M:Mut} {st:St} {a:Act} {w:World} (h:GoodH H F M0 s M st a w) {w':World} (hf:Fr (fun k=>k<w.heap.size/\¬ H.hb s w k) w w')
    (hs:∀ w1:World,w1.heap.size=w.heap.size->Fr (fun k=>k<w.heap.size/\¬ H.hb s w k) w w1->(∀ k,H.hb s w k->w1.heap[k]? = w'.heap[k]?)->H.I s' M w1/\∀ b,H.hb s' w1 b->H.hb s w b):Fr F w w'/\GoodH H F M0 s' M st a w':=by
  obtain ⟨w1,h1,hsz,hbel,hf1⟩:=h.turn hf hs
  have hf':Fr (fun b=>F b\/H.hb s' w1 b) w1 w':=Fr.below hbel h1.focus.room
  exact ⟨hf1.trans (fr_left hf'),h1.unfocus hf' (h1.focus.below hbel)⟩
theorem setRow_same {w:World} {b:Nat} {C D:Array Value} {E:TypeId} {fz:Nat×Nat} (h:w.heap[b]? = some (.cells C E fz)):(w.setRow b D).heap[b]? = some (.cells D E fz):=by
  unfold World.setRow
  simp [Array.getElem?_modify,h]
theorem setRow_other {w:World} {b k:Nat} {D:Array Value} (h:k≠b):(w.setRow b D).heap[k]? = w.heap[k]? := by
  unfold World.setRow
  simp [Array.getElem?_modify,Ne.symm h]
theorem setRow_size {w:World} {b:Nat} {D:Array Value}:(w.setRow b D).heap.size=w.heap.size:=by
  unfold World.setRow;simp
section
variable {a : Act} {w : World} {o : Oper}
theorem ex_index {T E:TypeId} {e:Ty} (hu:Try.prog.underlying T=some (.slice E)) (hE:tyOf Try.prog 9 E=some e) (hes:e.size=1) {p q:Nat} (ho:o.op = .indexAddr T (.tmp p) (.tmp q)) {R off n cap:Nat} {i:Int} (h0:tm a p = .slice (some ⟨R,off,none⟩) n cap) (h1:tm a q = .int .i64 i) (hi0:0<=i) (hi:i<n) :
    (execOp a.eval o).run Try.prog w = .ok (.value (.pointer (some ⟨R,off+i.toNat,none⟩))) w:=by
  have e0:a.eval (.tmp p) = .slice (some ⟨R,off,none⟩) n cap:=h0
  have e1:a.eval (.tmp q) = .int .i64 i:=h1
  simp [execOp,ho,e0,e1,Instr.indexAt,asIntOf,run_underlying hu,run_sizeOf hE,add_lit,hi0,hi,hes]
theorem ex_loadAt {T p:Nat} {t:Ty} (hty:tyOf Try.prog 9 T=some t) (hag:t.agg=false) (hts:t.size=1) (ho:o.op = .load T (.tmp p)) {b j:Nat} {v:Value} {cur:Array Value} {E:Nat} (ht:tm a p = .pointer (some ⟨b,j,none⟩)) (hh:w.heap[b]? = some (.cells cur E (0,0))) (hv:cur[j]? = some v) :
    (execOp a.eval o).run Try.prog w = .ok (.value v) w:=by
  have hlt:=(Array.getElem?_eq_some_iff.1 hv).1
  have hd:cur.toList.drop j=[v]++cur.toList.drop (j+1):=by
    have hl:j<cur.toList.length:=by simpa using hlt
    have hv2:cur.toList[j]=v:=(Array.getElem?_eq_some_iff.1 hv).2
    rw [List.drop_eq_getElem_cons hl,hv2]
    rfl
  have:=load_cells (P:=Try.prog) (n:=9) (T:=T) (t:=t) (w:=w) (b:=b) (off:=j) (us':=cur.toList.drop (j+1)) (c1:=[v]) hty hh hd hts.symm
  have e1:a.eval (.tmp p) = .pointer (some ⟨b,j,none⟩):=ht
  have e2:toVal t [v]=v:=by unfold toVal;rw [hag];rfl
  rw [e2] at this
  simp [execOp,ho,e1,Instr.loadAt,Instr.sureAddr,this]
theorem ex_storeAt {T p q:Nat} {t:Ty} (hty:tyOf Try.prog 9 T=some t) (hts:t.size=1) (ho:o.op = .store T (.tmp p) (.tmp q)) {b j:Nat} {u:Value} {cur:Array Value} {E:Nat} (ht:tm a p = .pointer (some ⟨b,j,none⟩)) (hq:tm a q=u) (hu:u.oneCell'=true) (huc:u.cells = #[u]) (hh:w.heap[b]? = some (.cells cur E (0,0))) (hj:j<cur.size) :
    (execOp a.eval o).run Try.prog w = .ok .skip (w.setRow b (cur.setIfInBounds j u)):=by
  have e1:a.eval (.tmp p) = .pointer (some ⟨b,j,none⟩):=ht
  have e3:a.eval (.tmp q)=u:=hq
  have hrun:=run_storeVar (P:=Try.prog) (n:=9) (T:=T) (t:=t) hty (o:=j) (v:=u) (by rw [huc,hts];rfl) hh (by rw [hts];omega) (by rw [huc];intro x hx;simp at hx;rw [hx];exact hu)
  have hrow:(cur.toList.take j ++ #[u].toList++cur.toList.drop (j+1)).toArray=cur.setIfInBounds j u:=by
    apply Array.ext'
    simp only [Array.toList_setIfInBounds]
    rw [List.set_eq_take_append_cons_drop,if_pos (by simpa using hj)]
    simp
  rw [huc,hts,hrow] at hrun
  simp only [execOp,ho,e1,e3,Instr.storeAt,Instr.sureAddr,Sem.run_bind,Sem.run_pure,Result.andThen_ok]
  rw [hrun]
  rfl
end
end Go.V
