/- A part of the proof of TopNinesSaid: no condition beyond what each theorem says. -/
import Derived.Test.YtkohflnifdpahaaN03
import Derived.RangeFuncIn
import Derived.RangeFuncCalls
import Derived.OrdersIn
set_option linter.all false
namespace Go.V
open Go.RowKit (Below)
def ResOK (M:Mut) (w w':World) (multi own:Bool) (t:Ty) (v:Value) (r:t.den):Prop :=
  ∃ M',(∀ b o,M b o->M' b o)/\(∀ b o,M' b o->M b o\/(w.heap.size<=b/\b<w'.heap.size)) /\
    SlotOK M' w' [] ⟨#[],[]⟩ v (mkRes multi own t r)/\∀ b,ownS (mkRes multi own t r)=true->ownB v=some b->w.heap.size<=b
class Inv (P:Program) where
  I:World->Prop
  below:∀ w w',I w->Below w.heap.size w w'->I w'
def Like (p q:Value):Prop:=q=p\/like p q=true
theorem Like.refl (p:Value):Like p p:=.inl rfl
theorem like_iff {p q:Value} (h:like p q=true):∃ T cs cs',p = .iface T (.agg cs)/\q = .iface T (.agg cs')/\cs.size=cs'.size/\cs.toList.all (·.oneCell')=true/\cs'.toList.all (·.oneCell')=true:=by
  unfold like at h
  split at h
  . rename_i T u T' v
    simp only [Bool.and_eq_true,beq_iff_eq] at h
    obtain ⟨⟨⟨h1,h2⟩,h3⟩,h4⟩:=h
    subst h1
    exact ⟨T,u,v,rfl,rfl,h2,h3,h4⟩
  . cases h
theorem like_trans {p q r:Value} (h:like p q=true) (k:like q r=true):like p r=true:=by
  obtain ⟨T,u,v,rfl,rfl,h1,h2,h3⟩:=like_iff h
  obtain ⟨T',u',v',e,rfl,h4,h5,h6⟩:=like_iff k
  cases e
  simp only [like,h1,h4,h2,h6,beq_self_eq_true,Bool.and_true]
theorem Like.agg {T:TypeId} {cs:Array Value} {q:Value} (h:Like (.iface T (.agg cs)) q) (h1:cs.toList.all (·.oneCell')=true):∃ cs',q = .iface T (.agg cs')/\cs'.size=cs.size/\cs'.toList.all (·.oneCell')=true:=by
  rcases h with rfl|h
  . exact ⟨cs,rfl,rfl,h1⟩
  . obtain ⟨T',u,v,e,e2,e3,e4,e5⟩:=like_iff h
    cases e
    exact ⟨v,e2,e3.symm,e5⟩
theorem Like.trans {p q r:Value} (h:Like p q) (k:Like q r):Like p r:=by
  rcases h with rfl|h
  . exact k
  . rcases k with rfl|k
    . exact .inr h
    . exact .inr (like_trans h k)
def CallOK (P:Program) [Inv P] (sp:Spec):Prop :=
  ∀ (x:sp.arg.den) (M:Mut) (w:World) (vs:Array Value),Inv.I P w->RepT M w sp.arg vs.toList x->(∀ b o,M b o->b<w.heap.size) ->
    match sp.f x with
    | .ret r=>Calls P sp.fn vs w fun e w'=>∃ v,e = .returned v/\Below w.heap.size w w'/\ResOK M w w' sp.multi sp.own sp.res v r
    | .pan p=>Calls P sp.fn vs w fun e w'=>(∃ q,Like p q/\e = .panicked [{ v:=q,recovered:=false }])/\Below w.heap.size w w'
    | .fail=>True
def IterStep (W W1 W2:World):Prop:=Below W.heap.size W1 W2/\∀ (k:Nat) (ob:Obj),W1.heap[k]? = some ob->ob.isCells=true->W2.heap[k]? = some ob
structure RoundKeeps (R:Nat->Prop) (M1:Mut) (W1:World) (M2:Mut) (W2:World):Prop where
  size:W1.heap.size<=W2.heap.size
  new:∀ k o,M2 k o->(∃ o',M1 k o')\/W1.heap.size<=k
  lt:∀ k o,M2 k o->k<W2.heap.size
  stable:Stable M1 W1 M2 W2
  same:∀ k,k<W1.heap.size->(∀ o,¬ M1 k o)->¬ R k->W2.heap[k]? = W1.heap[k]?
def Iter (P:Program) [Inv P] (v:Value) (e:Ty) (ys:List e.den) (M:Mut) (w:World):Prop :=
  ∃ g fs pc,v = .func (.func g) fs pc/\enters P g=true /\
    ∀ (n l:Nat) (R:Nat->Prop) (J:Nat->Mut->World->Prop) (Jx:World->Prop) (W:World) (N0:Mut),
      Stable M w N0 W->w.heap.size<=W.heap.size->Inv.I P W->(∀ b o,N0 b o->b<W.heap.size)->(∀ b,R b->b<W.heap.size/\∀ ob,W.heap[b]? = some ob->ob.isCells=false) ->
      (∀ i M1 W1,J i M1 W1->Inv.I P W1)->(∀ i M1 W1 W2,J i M1 W1->IterStep W W1 W2->J i M1 W2)->(∀ W1 W2,Jx W1->IterStep W W1 W2->Jx W2) ->
      (∀ i M1 W1 u y,J i M1 W1->ys[i]? = some y->RepV M1 W1 e u y->∃ fn tmps assign body,(Instr.yield l #[u]).run P W1 = .ok (.round l fn tmps assign body) W1 /\
        RoundIn Fence.wide n P l fn tmps assign body W1 fun r W2 =>
          (r = .returned (.bool true)/\∃ M2,J (i+1) M2 W2/\RoundKeeps R M1 W1 M2 W2)\/(r = .returned (.bool false)/\Jx W2)) ->
      J 0 N0 W ->
      Calls P g (fs ++ #[.func (.yield l) #[] #[]]++pc) W fun r W'=>(∃ u,r = .returned u)/\((∃ M1,J ys.length M1 W')\/Jx W')
def IterOK (P:Program) [Inv P] (sp:Spec):Prop :=
  ∀ (x:sp.arg.den) (M:Mut) (w:World) (v:Value) (z:(e:Ty)×List e.den),Inv.I P w->RepV M w sp.arg v x->(∀ b o,M b o->b<w.heap.size)->itemsOf sp x=some z->Iter P v z.1 z.2 M w
def takeX {t e b:Ty} (he:t = .prod (.list e) b) (x:t.den):List e.den×b.den:=(he ▸ x:(Ty.prod (.list e) b).den)
def TakeOK (P:Program) [Inv P] (sp:Spec):Prop :=
  ∀ (e t1 e2:Ty) (he:sp.arg = .prod (.list e) (.prod t1 (.prod (.list e2) .unit))) (xs:List e.den) (y:t1.den) (ys:List e2.den) (M:Mut) (w:World) (v0 v1 v2:Value) (r:sp.res.den),Inv.I P w->ArrAt M w e v0 xs->RepV M w t1 v1 y ->
    RepC M w (.list e2) [v2] ys->OwnAt M w e2.size v2 ys.length->(∀ k,ownB v0=some k->ownB v2≠some k)->(∀ k o,M k o->k<w.heap.size) ->
    (∀ x:sp.arg.den,takeX he x=(xs,y,ys,())->sp.f x = .ret r)->Calls P sp.fn #[v0,v1,v2] w fun z w'=>∃ v,z = .returned v/\Fr (fun k=>k<w.heap.size/\ownB v0≠some k) w w' /\
      ∃ M',(∀ k o,ownB v0≠some k->M k o->M' k o)/\(∀ k o,M' k o->M k o\/(w.heap.size<=k/\k<w'.heap.size))/\SlotOK M' w' [] ⟨#[],[]⟩ v (mkRes sp.multi sp.own sp.res r) /\
        ∀ k,ownS (mkRes sp.multi sp.own sp.res r)=true->ownB v=some k->w.heap.size<=k\/ownB v0=some k
def Contract (P:Program) [Inv P] (sp:Spec):Prop :=
  match sp.kind with
  | .call=>CallOK P sp
  | .iter=>IterOK P sp
  | .take=>TakeOK P sp
section
variable {P : Program} [Inv P] {Φ : Nat → List Spec} {F : Nat → Prop} {M0 : Base} {w0 : World} {M : Mut} {st : St} {a : Act} {w : World} {o : Oper}
theorem packArgs_ok:∀ (t:Ty) (ss:List S) (vs:List Value) (x:t.den),ss.length=vs.length->(∀ (i:Nat) s v,ss[i]? = some s->vs[i]? = some v->SlotOK M w st a v s)->packArgs t ss=some x->RepT M w t vs x
  | .unit,ss,vs,x,hl,h,e=>by
    cases ss with
    | nil=>exact List.eq_nil_of_length_eq_zero (by simpa using hl.symm)
    | cons s ss=>simp [packArgs] at e
  | .prod p q,ss,vs,x,hl,h,e=>by
    cases ss with
    | nil=>simp [packArgs] at e
    | cons s ss =>
      cases vs with
      | nil=>simp at hl
      | cons v vs =>
        simp only [packArgs] at e
        cases h1:s.as p with
        | none=>rw [h1] at e;cases e
        | some x1 =>
          rw [h1] at e
          dsimp only at e
          cases h2:packArgs q ss with
          | none=>rw [h2] at e;cases e
          | some x2 =>
            rw [h2] at e;cases e
            exact ⟨v,vs,rfl,as_ok (h 0 s v rfl rfl) h1,packArgs_ok q ss vs x2 (by simpa using hl) (fun i s v e1 e2=>h (i+1) s v (by simpa using e1) (by simpa using e2)) h2⟩
  | .int _,ss,_,_,_,_,e=>by cases ss<;>simp [packArgs] at e
  | .bool,ss,_,_,_,_,e=>by cases ss<;>simp [packArgs] at e
  | .str,ss,_,_,_,_,e=>by cases ss<;>simp [packArgs] at e
  | .list _,ss,_,_,_,_,e=>by cases ss<;>simp [packArgs] at e
  | .raw,ss,_,_,_,_,e=>by cases ss<;>simp [packArgs] at e
  | .opq,ss,_,_,_,_,e=>by cases ss<;>simp [packArgs] at e
  | .dyn _ _,ss,_,_,_,_,e=>by cases ss<;>simp [packArgs] at e
  | .ptr _,ss,_,_,_,_,e=>by cases ss<;>simp [packArgs] at e
  | .clo _ _ _,ss,_,_,_,_,e=>by cases ss<;>simp [packArgs] at e
theorem findSpec_call {g:Nat} {ss:List S} {rd0:Nat} {sp:Spec} {x:sp.arg.den} {rd:Nat}:∀ {l:List Spec},findSpec g ss rd0 l = .call sp x rd->sp∈l/\sp.fn=g/\sp.kind = .call/\packArgs sp.arg ss=some x
  | [],h=>by simp [findSpec] at h
  | s :: l,h=>by
    unfold findSpec at h
    split at h
    . rename_i hg
      split at h
      . rename_i y hy
        cases h
        exact ⟨by simp,hg.1,hg.2,hy⟩
      . obtain ⟨h1,h2,h3⟩:=findSpec_call h
        exact ⟨by simp [h1],h2,h3⟩
    . obtain ⟨h1,h2,h3⟩:=findSpec_call h
      exact ⟨by simp [h1],h2,h3⟩
theorem dS_ok {t:Ty} {v:Value} {x:t.den} (h:RepV M w t v x):SlotOK M w st a v (dS t x):=by
  cases t with
  | ptr u =>
    obtain ⟨cs,e1,b,off,ec,e2,e3,e4,e5⟩:=h
    exact ⟨b,off,ec,by rw [e1,e2];rfl,e3,e4,e5⟩
  | _=>exact h
theorem allOne_rep:∀ (t:Ty) (pc:List Value) (x:t.den),allOne t=true->RepC M w t pc x->RepT M w t pc x
  | .unit,_,_,_,h=>h
  | .prod p q,pc,x,ha,h=>by
    simp only [allOne,Bool.and_eq_true,Bool.not_eq_true'] at ha
    obtain ⟨c1,c2,rfl,h1,h2⟩:=h
    have hl:=RepC.length _ _ _ h1
    rw [agg_false_size ha.1] at hl
    match c1,hl with
    | [v],_=>exact ⟨v,c2,rfl,⟨[v],by simp [toVal,ha.1],h1⟩,allOne_rep q c2 x.2 ha.2 h2⟩
  | .int _,_,_,ha,_=>by simp [allOne] at ha
  | .bool,_,_,ha,_=>by simp [allOne] at ha
  | .str,_,_,ha,_=>by simp [allOne] at ha
  | .list _,_,_,ha,_=>by simp [allOne] at ha
  | .raw,_,_,ha,_=>by simp [allOne] at ha
  | .opq,_,_,ha,_=>by simp [allOne] at ha
  | .dyn _ _,_,_,ha,_=>by simp [allOne] at ha
  | .ptr _,_,_,ha,_=>by simp [allOne] at ha
  | .clo _ _ _,_,_,ha,_=>by simp [allOne] at ha
theorem argS_ok:∀ (t:Ty) (vs:List Value) (x:t.den),RepT M w t vs x->(argS t x).length=vs.length/\∀ (i:Nat) s v,(argS t x)[i]? = some s->vs[i]? = some v->SlotOK M w st a v s
  | .unit,vs,_,h=>by
    have:vs=[]:=h
    subst this
    exact ⟨rfl,fun i s v e=>by simp [argS] at e⟩
  | .prod p q,vs,x,h=>by
    obtain ⟨v,rest,rfl,h1,h2⟩:=h
    obtain ⟨h3,h4⟩:=argS_ok q rest x.2 h2
    refine ⟨by simp [argS,h3],fun i s v' e1 e2=>?_⟩
    cases i with
    | zero=>simp only [argS,List.getElem?_cons_zero,Option.some.injEq] at e1 e2;subst e1;subst e2;exact dS_ok h1
    | succ i=>exact h4 i s v' (by simpa [argS] using e1) (by simpa using e2)
  | .int _,_,_,h=>h.elim
  | .bool,_,_,h=>h.elim
  | .str,_,_,h=>h.elim
  | .list _,_,_,h=>h.elim
  | .raw,_,_,h=>h.elim
  | .opq,_,_,h=>h.elim
  | .dyn _ _,_,_,h=>h.elim
  | .ptr _,_,_,h=>h.elim
  | .clo _ _ _,_,_,h=>h.elim
theorem firstS_ok {t:Ty} {fc:List Value} {x:t.den} (h:RepC M w t fc x):(firstS t x).length=(firstsOf t fc).toList.length/\∀ (i:Nat) s v,(firstS t x)[i]? = some s->(firstsOf t fc).toList[i]? = some v->SlotOK M w st a v s:=by
  unfold firstS firstsOf
  cases t.isUnit with
  | true=>exact ⟨rfl,fun i s v e=>by simp at e⟩
  | false =>
    refine ⟨rfl,fun i s v e1 e2=>?_⟩
    cases i with
    | zero=>simp at e1 e2;subst e1;subst e2;exact dS_ok ⟨fc,rfl,h⟩
    | succ i=>simp at e1
theorem slots_app {ss1 ss2:List S} {vs1 vs2:List Value} (hl:ss1.length=vs1.length) (h1:∀ (i:Nat) s v,ss1[i]? = some s->vs1[i]? = some v->SlotOK M w st a v s)
    (h2:∀ (i:Nat) s v,ss2[i]? = some s->vs2[i]? = some v->SlotOK M w st a v s):∀ (i:Nat) s v,(ss1++ss2)[i]? = some s->(vs1++vs2)[i]? = some v->SlotOK M w st a v s:=by
  intro i s v e1 e2
  rw [List.getElem?_append] at e1 e2
  rw [hl] at e1
  split at e1
  . rename_i hlt;rw [if_pos hlt] at e2;exact h1 i s v e1 e2
  . rename_i hlt;rw [if_neg hlt] at e2;exact h2 _ s v e1 e2
theorem slots_args (hg:Good M0 F M st a w) (l:List Operand):∀ (i:Nat) s v,(l.map (opnd st))[i]? = some s->(l.map a.eval)[i]? = some v->SlotOK M w st a v s:=by
  intro i s v e1 e2
  rw [List.getElem?_map] at e1 e2
  cases hx:l[i]? with
  | none=>rw [hx] at e1;cases e1
  | some y=>rw [hx] at e1 e2;cases e1;cases e2;exact opnd_ok hg y
theorem enters_run {g:Nat} (h:enters P g=true) (args:Array Value) (w:World):(callFunc g args).run P w = .ok (.enter g args) w:=by
  unfold enters at h
  split at h
  rotate_left
  . cases h
  rename_i fn hfn
  simp only [Bool.not_eq_true',Bool.or_eq_false_iff] at h
  have hb:¬ fn.body=none:=by intro e;rw [e] at h;simp at h
  have hn : ¬ fn.name = "runtime.NumGoroutine" := by simpa using h.1
  simp [callFunc,hfn,hn,hb]
theorem clo_core (hg:Good M0 F M st a w) {cl:Call} (ho:o.op = .call cl) {f:Operand} (hcl:cl.callee = .value f) {g:Nat} {p q:Ty} {y:(Ty.clo g p q).den} (hf:RepV M w (.clo g p q) (a.eval f) y) {sp:Spec} {x:sp.arg.den} {rd0 rd:Nat}
    (h:preClo P Φ st rd0 g p q y cl.args.toList = .call sp x rd) :
    sp∈Φ sp.fn/\sp.kind = .call/\∃ vs:Array Value,(execOp a.eval o).run P w = .ok (.enter sp.fn vs) w/\RepT M w sp.arg vs.toList x:=by
  unfold preClo at h
  split at h
  rotate_left
  . cases h
  rename_i hc
  rw [Bool.and_eq_true] at hc
  obtain ⟨h1,h2,h3,h4⟩:=findSpec_call h
  subst h2
  obtain ⟨cs,e1,fc,pc,e2,e3,e4⟩:=hf
  have hv:a.eval f = .func (.func sp.fn) (firstsOf p fc) pc.toArray:=by rw [e1,e2];rfl
  refine ⟨h1,h3,firstsOf p fc++cl.args.map a.eval++pc.toArray,?_,?_⟩
  . obtain ⟨callee,args,argTypes⟩:=cl
    simp only at hcl
    subst hcl
    simp [execOp,ho,resolve,hv,Deferred.ofValue,invoke,enters_run hc.1]
  . obtain ⟨f1,f2⟩:=firstS_ok (st:=st) (a:=a) e3
    obtain ⟨g1,g2⟩:=argS_ok (st:=st) (a:=a) q pc y.2 (allOne_rep q pc y.2 hc.2 e4)
    refine packArgs_ok (a:=a) (st:=st) sp.arg _ _ x ?_ ?_ h4
    . simp only [List.length_append,List.length_map,f1,g1,Array.toList_append,Array.toList_map,Array.length_toList]
    . simp only [Array.toList_append,Array.toList_map]
      exact slots_app (by simp only [List.length_append,List.length_map,f1]) (slots_app f1 f2 (slots_args hg _)) g2
theorem run_method {T:TypeId} {name:String} {f:Nat} (h:methodOf P T name=some f) (v:Value) (w:World):(method (P.types.size+Made.depth) T v name).run P w = .ok (f,v) w:=by
  unfold methodOf at h
  split at h
  rotate_left
  . cases h
  rename_i i hi
  split at h
  rotate_left
  . cases h
  rename_i m hm
  split at h
  rotate_left
  . cases h
  rename_i f' hp hf
  split at h
  . cases h
  . rename_i d hd1 hd2
    cases h
    have hpos:∃ k,P.types.size+Made.depth=k+1:=⟨P.types.size+Made.depth - 1,by unfold Made.depth;omega⟩
    obtain ⟨k,hk⟩:=hpos
    rw [hk]
    have hpath:m.path.toList=[]:=hp
    have hnp:∀ e,d ≠ .pointer e:=hd1
    simp only [method,typeInfo,Sem.run_bind,run_program,Result.andThen_ok,hi,hm,hpath,follow,Sem.run_pure,hf,receiverAt,run_underlying hd2]
    cases d<;>first|exact absurd rfl (hnp _)|simp [Place.get]
  . cases h
theorem invoke_core (hg:Good M0 F M st a w) {cl:Call} (ho:o.op = .call cl) {r:Operand} {name:String} (hcl:cl.callee = .invoke r name) {sp:Spec} {x:sp.arg.den} {rd0 rd:Nat}
    (h:preInvoke P Φ st rd0 name (opnd st r) cl.args.toList = .call sp x rd) :
    sp∈Φ sp.fn/\sp.kind = .call/\∃ vs:Array Value,(execOp a.eval o).run P w = .ok (.enter sp.fn vs) w/\RepT M w sp.arg vs.toList x:=by
  have hr:=opnd_ok hg r
  unfold preInvoke at h
  split at h
  rotate_left
  . cases h
  rename_i _ T t v e
  split at h
  rotate_left
  . cases h
  rename_i f hm
  split at h
  rotate_left
  . cases h
  rename_i hent
  obtain ⟨h1,h2,h3,h4⟩:=findSpec_call h
  subst h2
  rw [e] at hr
  obtain ⟨cs,e1,ec,e2,e3⟩:=hr
  have hv:a.eval r = .iface T (toVal t ec):=by rw [e1,e2];rfl
  refine ⟨h1,h3,#[toVal t ec]++cl.args.map a.eval,?_,?_⟩
  . obtain ⟨callee,args,argTypes⟩:=cl
    simp only at hcl
    subst hcl
    have h0:(#[Value.iface T (toVal t ec)]++Array.map a.eval args)[0]? = some (.iface T (toVal t ec)):=by
      rw [Array.getElem?_append_left (by simp)];rfl
    have h2:(#[Value.iface T (toVal t ec)]++Array.map a.eval args).extract 1 (#[Value.iface T (toVal t ec)]++Array.map a.eval args).size=Array.map a.eval args:=by
      apply Array.ext'
      simp [List.take_of_length_le]
    have h5:(invoke { target:=.fn (.method name) #[],args := #[Value.iface T (toVal t ec)]++Array.map a.eval args:Deferred }.target (#[Value.iface T (toVal t ec)]++Array.map a.eval args)).run P w = .ok (.enter sp.fn (#[toVal t ec]++Array.map a.eval args)) w:=by
      simp only [invoke,h0,h2,callMethod,Sem.run_bind,run_program,Result.andThen_ok,run_method hm,enters_run hent]
    simp only [execOp,ho,resolve,hv,Sem.run_bind,Sem.run_pure,Result.andThen_ok]
    exact h5
  . refine packArgs_ok (a:=a) (st:=st) sp.arg _ _ x ?_ ?_ h4
    . simp
    . have:=slots_app (st:=st) (a:=a) (ss1:=[dS t v]) (vs1:=[toVal t ec]) rfl (fun i s u f1 f2=>by
        cases i with
        | zero=>simp at f1 f2;subst f1;subst f2;exact dS_ok ⟨ec,rfl,e3⟩
        | succ i=>simp at f1) (slots_args hg cl.args.toList)
      simpa using this
theorem call_core (hg:Good M0 F M st a w) {cl:Call} (ho:o.op = .call cl) {f:Operand} (hcl:cl.callee = .value f) {v:Value} (hf:a.eval f=v) {sp:Spec} {x:sp.arg.den} {rd0 rd:Nat}
    (h:(match v with
      | .func (.func g) first captured=>if captured.size=0 then
         (match P.funcs[g]? with
          | some fn => if fn.name == "runtime.NumGoroutine" || fn.body.isNone then Pre.bad
            else findSpec g (first.toList.map ofVal++cl.args.toList.map (opnd st)) rd0 (Φ g)
          | none=>Pre.bad)
       else Pre.bad
      | _=>Pre.bad) = .call sp x rd) :
    sp∈Φ sp.fn/\sp.kind = .call/\∃ vs:Array Value,(execOp a.eval o).run P w = .ok (.enter sp.fn vs) w/\RepT M w sp.arg vs.toList x:=by
  split at h
  rotate_left
  . cases h
  rename_i g first captured
  split at h
  rotate_left
  . cases h
  rename_i hcap
  split at h
  rotate_left
  . cases h
  rename_i fn hfn
  split at h
  . cases h
  rename_i hcond
  simp only [Bool.or_eq_true,not_or] at hcond
  obtain ⟨hc1,hc2⟩:=hcond
  obtain ⟨h1,rfl,hk,h3⟩:=findSpec_call h
  have hcap':captured = #[]:=Array.eq_empty_of_size_eq_zero hcap
  refine ⟨h1,hk,first++cl.args.map a.eval,?_,?_⟩
  . obtain ⟨callee,args,argTypes⟩:=cl
    simp only at hcl
    subst hcl
    have hb:¬ fn.body=none:=by simpa using hc2
    have hn : ¬ fn.name = "runtime.NumGoroutine" := by simpa using hc1
    simp [execOp,ho,resolve,hf,Deferred.ofValue,invoke,callFunc,hfn,hn,hb,hcap']
  . refine packArgs_ok (a:=a) (st:=st) sp.arg _ _ x (by simp) (fun i s u e1 e2=>?_) h3
    rw [Array.toList_append,List.getElem?_append] at e2
    rw [List.getElem?_append] at e1
    simp only [List.length_map,Array.length_toList] at e1 e2
    split at e1
    . rename_i hlt
      rw [if_pos (by simpa using hlt)] at e2
      rw [List.getElem?_map] at e1
      rw [e2] at e1
      cases e1
      exact ofVal_ok u
    . rename_i hlt
      rw [if_neg (by simpa using hlt)] at e2
      rw [List.getElem?_map] at e1
      simp only [Array.toList_map,List.getElem?_map] at e2
      cases hx:cl.args.toList[i - first.size]? with
      | none=>rw [hx] at e1;cases e1
      | some y =>
        rw [hx] at e1 e2
        cases e1;cases e2
        exact opnd_ok hg y
theorem op_call (hg:Good M0 F M st a w) {sp:Spec} {x:sp.arg.den} {rd:Nat} (h:vpre P Φ o st = .call sp x rd) :
    sp∈Φ sp.fn/\sp.kind = .call/\∃ vs:Array Value,(execOp a.eval o).run P w = .ok (.enter sp.fn vs) w/\RepT M w sp.arg vs.toList x:=by
  cases ho:o.op with
  | call cl =>
    simp only [vpre,ho,preCall] at h
    split at h
    . exfalso
      unfold preBuiltin preAppend preApp preLen preMinMax put1 at h
      repeat' split at h
      all_goals cases h
    . rename_i f hcl
      split at h
      . rename_i v e
        exact call_core hg ho hcl (repV_raw (slot_d hg e)) h
      . rename_i g p q y e
        exact clo_core hg ho hcl (slot_d hg e) h
      . cases h
    . rename_i r name hcl
      exact invoke_core hg ho hcl h
  | makeMap T r=>cases r<;>simp [vpre,ho] at h
  | _ =>
    exfalso
    simp only [vpre,ho] at h
    try unfold preRange at h
    try unfold preNext at h
    try unfold preAssert at h
    try unfold preMakeSlice at h
    try unfold preMake at h
    try unfold preBin preBinInt preBinStr preBinBool preBinAgg at h
    try unfold preUn at h
    try unfold preConv at h
    try unfold cloBox at h
    try unfold cloLoad at h
    try unfold preSlice preSliceStr preSliceList at h
    try unfold put1 at h
    repeat' split at h
    all_goals cases h
theorem mkRes_cases (multi own:Bool) (t:Ty) (r:t.den):mkRes multi own t r = .tup t r\/mkRes multi own t r = .d t r\/(∃ e xs,mkRes multi own t r = .own e xs true)\/∃ e xs,mkRes multi own t r = .arr e xs true:=by
  cases multi with
  | true =>
    cases own with
    | false=>exact .inl rfl
    | true =>
      cases t with
      | list e=>exact .inr (.inr (.inr ⟨e,r,rfl⟩))
      | _=>exact .inl rfl
  | false =>
    cases own with
    | false=>exact .inr (.inl rfl)
    | true =>
      cases t with
      | list e=>exact .inr (.inr (.inl ⟨e,r,rfl⟩))
      | _=>exact .inr (.inl rfl)
theorem Good.res (hg:Good M0 F M st a w) (hnb:dstBox o st=false) {w':World} (hb:Below w.heap.size w w') {multi own:Bool} {t:Ty} {v:Value} {r:t.den}
    (hr:ResOK M w w' multi own t v r):∃ M',Good M0 F M' (app (o.dst.toList.map (·,mkRes multi own t r)) st) (a.put o.dst v) w':=by
  obtain ⟨M',h1,h2,h3,h4⟩:=hr
  have hnb':NoBox st o:=fun d hd=>by unfold dstBox at hnb;rw [hd] at hnb;exact hnb
  have hst:Stable M w M' w':=fun b o u p q=>by
    have hlt:=cell_lt p
    refine ⟨(hb.cell (p:=⟨b,o,none⟩) hlt).trans p,fun h=>?_⟩
    rcases h2 b o h with h|⟨h,_⟩
    . exact q h
    . omega
  have hg1:Good M0 F M' st a w':=by
    refine hg.world hst hb.size (fun b o h=>h1 b o (hg.up b o h)) (fun b o h=>?_) (fun b o hlt h=>?_) (KeepsD.below hb) fun i k b ho=>⟨hb.block b (owns_lt hg.slot ho),fun o h=>h1 b o h⟩
    . rcases h2 b o h with h|⟨_,h⟩
      . exact Nat.lt_of_lt_of_le (hg.lt b o h) hb.size
      . exact h
    . rcases h2 b o h with h|⟨h,_⟩
      . exact hg.down b o hlt h
      . have:=hg.room _ hlt;omega
  refine ⟨M',?_⟩
  have hfree:∀ b,w.heap.size<=b->¬ F b/\∀ j l,¬ owns st a w' j l b:=fun b hge =>
    ⟨fun hF=>absurd (hg.room _ hF) (by omega),fun j l ho=>absurd (owns_lt hg.slot (owns_world (fun i b ho'=>hb.block b (owns_lt hg.slot ho')) ho)) (by omega)⟩
  rcases mkRes_cases multi own t r with hm|hm|⟨e,xs,hm⟩|⟨e,xs,hm⟩
  . rw [hm] at h3 ⊢;exact hg1.fin hnb' rfl h3
  . rw [hm] at h3 ⊢;exact hg1.fin hnb' rfl h3
  rotate_left
  . rw [hm] at h3 ⊢
    exact hg1.fin_arr hnb' h3 fun b hbb=>hfree b (h4 b (by rw [hm];rfl) hbb)
  . rw [hm] at h3 ⊢
    refine hg1.fin_own hnb' h3.1 h3.2 fun b hbb=>?_
    have hge:=h4 b (by rw [hm];rfl) hbb
    exact ⟨fun hF=>absurd (hg.room _ hF) (by omega),fun j l ho=>absurd (owns_lt hg.slot (owns_world (fun i b ho'=>hb.block b (owns_lt hg.slot ho')) ho)) (by omega)⟩
theorem projF_nprod (e:Ty):∀ (n j:Nat) (x:(nprod e n).den),j<n->∃ y:e.den,projF (nprod e n) x j=some ⟨e,y⟩/\offOf (nprod e n) j=j * e.size
  | 0,j,x,h=>absurd h (Nat.not_lt_zero _)
  | n+1,0,x,h=>⟨x.1,rfl,by simp [nprod,offOf]⟩
  | n+1,j+1,x,h=>by
    obtain ⟨y,h1,h2⟩:=projF_nprod e n j x.2 (by omega)
    refine ⟨y,h1,?_⟩
    simp only [nprod,offOf,h2]
    rw [Nat.add_mul];omega
theorem op_cse (hg:Good M0 F M st a w) (hb:Fr F w0 w) (hnb:NoBox st o) {i:Int} {n rd:Nat} {wr:Nat->List (Nat×S)}
    (h:vpre P Φ o st = .cse i n rd wr) {j:Nat} (hj:j<n) (hij:i=(j:Int)):ORun P F M0 w0 o a w (app (wr j) st):=by
  have fs:∀ (g:Nat) (ss:List S) (rd0:Nat) (l:List Spec),findSpec g ss rd0 l ≠ .cse i n rd wr:=by
    intro g ss rd0 l
    induction l with
    | nil=>simp [findSpec]
    | cons sp sps ih =>
      unfold findSpec
      split
      . split
        . simp
        . exact ih
      . exact ih
  cases ho:o.op with
  | index T x ix =>
    simp only [vpre,ho] at h
    have hx:=opnd_ok hg x
    split at h
    . split at h<;>cases h
    . rename_i len E hu
      split at h
      rotate_left
      . cases h
      rename_i t ht
      split at h
      rotate_left
      . cases h
      rename_i v m hv hm
      cases h
      obtain ⟨k,hk⟩:=idx_int hg hm
      obtain ⟨m',_,d,hd,hdt⟩:=tyOf_info ht
      rw [hu] at hd;cases hd
      simp only [descTy] at hdt
      cases hE:tyOf P m' E with
      | none=>rw [hE] at hdt;cases hdt
      | some e =>
        rw [hE] at hdt
        dsimp only at hdt
        split at hdt
        . cases hdt
        . cases hdt
          obtain ⟨y,p1,p2⟩:=projF_nprod e _ j v hj
          obtain ⟨cs,e1,e2⟩:=as_ok hx hv
          obtain ⟨g1,g2⟩:=projF_rep _ cs v j e y e2 p1
          dsimp only
          rw [p1]
          refine .same (v:=toVal e ((cs.drop (offOf (nprod e n) j)).take e.size)) hb ?_ (hg.fin hnb rfl ⟨_,rfl,g1⟩)
          have hag:a.eval x = .agg cs.toArray:=by rw [e1,toVal,if_pos (nprod_agg e _)]
          have hpart:=run_part hE cs.toArray (j * e.size) (by rw [<- p2];exact RepC.length _ _ _ g1) w
          simp only [p2] at hpart ⊢
          subst hij
          simp [execOp,ho,hag,hk,Instr.index,asIntOf,run_underlying hu,hj,run_sizeOf hE,hpart]
    . cases h
  | indexAddr T x ix =>
    simp only [vpre,ho] at h
    have hx:=opnd_ok hg x
    split at h
    . repeat' split at h
      all_goals cases h
    . rename_i len E hu
      split at h
      rotate_left
      . cases h
      rename_i e hm off m he hp hi
      cases h
      obtain ⟨k,hk⟩:=idx_int hg hi
      obtain ⟨b,cs,e1,e2,e3⟩:=place_ok hg hp
      refine .same (v:=.pointer (some ⟨b,off+j * e.size,none⟩)) hb ?_ (hg.fin hnb rfl ⟨b,cs,e1,e2,rfl⟩)
      subst hij
      simp [execOp,ho,e3,hk,Instr.indexAt,asIntOf,run_underlying hu,hj,run_sizeOf he,Instr.sureAddr,add_lit]
    . cases h
  | call cl =>
    exfalso
    simp only [vpre,ho,preCall] at h
    unfold preBuiltin preAppend preApp preLen preMinMax preClo preInvoke put1 at h
    repeat' split at h
    all_goals first|cases h|exact fs _ _ _ _ h
  | makeMap T r=>cases r<;>simp [vpre,ho] at h
  | _ =>
    exfalso
    simp only [vpre,ho] at h
    try unfold preRange at h
    try unfold preNext at h
    try unfold preAssert at h
    try unfold preMakeSlice at h
    try unfold preMake at h
    try unfold preBin preBinInt preBinStr preBinBool preBinAgg at h
    try unfold preUn at h
    try unfold preConv at h
    try unfold cloBox at h
    try unfold cloLoad at h
    try unfold preSlice preSliceStr preSliceList at h
    try unfold put1 at h
    repeat' split at h
    all_goals cases h
theorem op_panic (hg:Good M0 F M st a w) {p:Value} {rd:Nat} (h:vpre P Φ o st = .pan p rd):(execOp a.eval o).run P w = .halt (.panic p) w:=by
  have fs:∀ (g:Nat) (ss:List S) (rd0:Nat) (l:List Spec),findSpec g ss rd0 l ≠ .pan p rd:=by
    intro g ss rd0 l
    induction l with
    | nil=>simp [findSpec]
    | cons sp sps ih =>
      unfold findSpec
      split
      . split
        . simp
        . exact ih
      . exact ih
  cases ho:o.op with
  | panic x =>
    simp only [vpre,ho] at h
    have hx:=opnd_ok hg x
    split at h
    rotate_left
    . cases h
    rename_i T t v e
    rw [e] at hx
    split at h
    rotate_left
    . cases h
    rename_i cs hcs
    cases h
    obtain ⟨cs1,e1,cs2,e2,e3⟩:=hx
    have key:∀ (t:Ty) (x:t.den) (cs cs2:List Value),valOf t x=some cs->RepC M w t cs2 x->cs2=cs:=by
      intro t
      induction t with
      | int k=>intro x cs cs2 h1 h2;simp only [valOf,Option.some.injEq] at h1;rw [<- h1];exact h2
      | bool=>intro x cs cs2 h1 h2;simp only [valOf,Option.some.injEq] at h1;rw [<- h1];exact h2
      | str=>intro x cs cs2 h1 h2;simp only [valOf,Option.some.injEq] at h1;rw [<- h1];exact h2
      | unit=>intro x cs cs2 h1 h2;simp only [valOf,Option.some.injEq] at h1;rw [<- h1];exact h2
      | prod p q ihp ihq =>
        intro x cs cs2 h1 h2
        simp only [valOf] at h1
        cases hp:valOf p x.1 with
        | none=>rw [hp] at h1;cases h1
        | some c1 =>
          rw [hp] at h1
          dsimp only at h1
          cases hq:valOf q x.2 with
          | none=>rw [hq] at h1;cases h1
          | some c2 =>
            rw [hq] at h1;cases h1
            obtain ⟨d1,d2,rfl,g1,g2⟩:=h2
            rw [ihp _ _ _ hp g1,ihq _ _ _ hq g2]
      | _=>intro x cs cs2 h1 h2;simp [valOf] at h1
    have:=key t v cs cs2 hcs e3
    subst this
    have he:a.eval x = .iface T (toVal t cs2):=by rw [e1,e2];rfl
    simp [execOp,ho,he,Instr.panic]
  | call cl =>
    exfalso
    simp only [vpre,ho,preCall] at h
    unfold preBuiltin preAppend preApp preLen preMinMax preClo preInvoke put1 at h
    repeat' split at h
    all_goals first|cases h|exact fs _ _ _ _ h
  | makeMap T r=>cases r<;>simp [vpre,ho] at h
  | _ =>
    exfalso
    simp only [vpre,ho] at h
    try unfold preRange at h
    try unfold preNext at h
    try unfold preAssert at h
    try unfold preMakeSlice at h
    try unfold preMake at h
    try unfold preBin preBinInt preBinStr preBinBool preBinAgg at h
    try unfold preUn at h
    try unfold preConv at h
    try unfold cloBox at h
    try unfold cloLoad at h
    try unfold preSlice preSliceStr preSliceList at h
    try unfold put1 at h
    repeat' split at h
    all_goals cases h
theorem packTake_ok {t:Ty} {s s1 s2:S} {x:t.den} (h:packTake t s s1 s2=some x):∃ (e t1 e2:Ty) (he:t = .prod (.list e) (.prod t1 (.prod (.list e2) .unit))) (xs:List e.den) (y:t1.den) (ys:List e2.den) (hot hot2:Bool),
    s = .arr e xs hot/\s1.as t1=some y/\s2 = .own e2 ys hot2/\takeX he x=(xs,y,ys,()):=by
  unfold packTake at h
  split at h
  . rename_i e t1 e2 u xs hot u2 ys hot2
    split at h
    . rename_i hu
      obtain ⟨h1,h2⟩:=hu
      subst h1;subst h2
      split at h
      . rename_i y hy
        cases h
        exact ⟨_,_,_,rfl,xs,y,ys,hot,hot2,rfl,hy,rfl,rfl⟩
      . cases h
    . cases h
  . cases h
theorem findTake_ok {g:Nat} {s s1 s2:S} {h:Nat}:∀ {l:List Spec} {y:(sp:Spec)×sp.arg.den×Nat},findTake g s s1 s2 h l=some y->y.1∈l/\y.1.fn=g/\y.1.kind = .take/\packTake y.1.arg s s1 s2=some y.2.1/\y.2.2=h
  | [],_,e=>by simp [findTake] at e
  | sp :: l,y,e=>by
    unfold findTake at e
    split at e
    . rename_i hc
      split at e
      . rename_i x hx
        cases e
        exact ⟨by simp,hc.1,hc.2,hx,rfl⟩
      . obtain ⟨h1,h2⟩:=findTake_ok e
        exact ⟨by simp [h1],h2⟩
    . obtain ⟨h1,h2⟩:=findTake_ok e
      exact ⟨by simp [h1],h2⟩
theorem op_take (hg:Good M0 F M st a w) {y:(sp:Spec)×sp.arg.den×Nat} (h:takeOf P Φ o st=some y) :
    y.1∈Φ y.1.fn/\y.1.kind = .take/\∃ (e t1 e2:Ty) (he:y.1.arg = .prod (.list e) (.prod t1 (.prod (.list e2) .unit))) (xs:List e.den) (z:t1.den) (ys:List e2.den) (hot:Bool) (v1 v2:Value),get st y.2.2 = .arr e xs hot/\takeX he y.2.1=(xs,z,ys,()) /\
      (execOp a.eval o).run P w = .ok (.enter y.1.fn #[tm a y.2.2,v1,v2]) w/\RepV M w t1 v1 z/\RepC M w (.list e2) [v2] ys/\OwnAt M w e2.size v2 ys.length/\∀ k,ownB (tm a y.2.2)=some k->ownB v2≠some k:=by
  unfold takeOf at h
  split at h
  rotate_left
  . cases h
  rename_i cl ho
  split at h
  rotate_left
  . cases h
  rename_i f hh x1 h2 hcl hargs
  split at h
  rotate_left
  . cases h
  rename_i v hf
  split at h
  rotate_left
  . cases h
  rename_i g first captured
  split at h
  rotate_left
  . cases h
  rename_i hc
  obtain ⟨c1,c2,c3⟩:=hc
  obtain ⟨k1,k2,k3,k4,k5⟩:=findTake_ok h
  obtain ⟨e,t1,e2,he,xs,z,ys,hot,hot2,g1,g2,g3,g4⟩:=packTake_ok k4
  have hfv:a.eval f = .func (.func g) first captured:=repV_raw (slot_d hg hf)
  have hfirst:first = #[]:=Array.eq_empty_of_size_eq_zero c1
  have hcap:captured = #[]:=Array.eq_empty_of_size_eq_zero c2
  subst hfirst;subst hcap
  rw [k2,k5]
  have hs2:=hg.slot h2
  rw [g3] at hs2
  refine ⟨k1,k3,e,t1,e2,he,xs,z,ys,hot,a.eval x1,tm a h2,g1,g4,?_,as_ok (a:=a) (st:=st) (opnd_ok hg x1) g2,hs2.1,hs2.2,fun k hk hk2=>?_⟩
  . obtain ⟨callee,args,argTypes⟩:=cl
    simp only at hcl hargs
    subst hcl
    have hargs':args = #[Operand.tmp hh,x1,Operand.tmp h2]:=by rw [<- Array.toArray_toList (xs:=args),hargs]
    have:args.map a.eval = #[tm a hh,a.eval x1,tm a h2]:=by
      rw [hargs']
      simp [Act.eval,tm]
    simp [execOp,ho,resolve,hfv,Deferred.ofValue,invoke,enters_run c3,this]
  . have:=(hg.one hh none h2 none k ⟨by rw [g1];rfl,hk⟩ ⟨by rw [g3];rfl,hk2⟩).1
    rw [this,g3] at g1
    cases g1
def Eff (P:Program) (Φ:Nat->List Spec) (o:Oper) (st:St) (wr:List (Nat×S)):Prop :=
  (∃ (y:(sp:Spec)×sp.arg.den×Nat) (r:y.1.res.den),takeOf P Φ o st=some y/\y.1.f y.2.1 = .ret r/\wr=wrTake o y.1 y.2.2 r) \/
  (∃ rd,vpre P Φ o st = .eff true rd wr) \/
  (∃ (i:Int) (n rd:Nat) (f:Nat->List (Nat×S)) (j:Nat),vpre P Φ o st = .cse i n rd f/\j<n/\i=(j:Int)/\wr=f j) \/
  (∃ (sp:Spec) (x:sp.arg.den) (rd:Nat) (r:sp.res.den),vpre P Φ o st = .call sp x rd/\sp.f x = .ret r/\wr=wrRes o sp r)
theorem nobox_of0 {o:Oper} (h:dstBox o st=false):NoBox st o:=fun d hd=>by unfold dstBox at h;rw [hd] at h;exact h
theorem nobox_of {o:Oper} (h:dstBox o st=false):NoBox st o:=nobox_of0 h
theorem Good.take (hg:Good M0 F M st a w) (hnb:dstBox o st=false) {h:Nat} {e:Ty} {xs:List e.den} {hot:Bool} (hx:get st h = .arr e xs hot) {w':World} (hb:Fr (fun k=>k<w.heap.size/\ownB (tm a h)≠some k) w w')
    {sp:Spec} {r:sp.res.den} {v:Value} {M':Mut} (m1:∀ k o,ownB (tm a h)≠some k->M k o->M' k o) (m2:∀ k o,M' k o->M k o\/(w.heap.size<=k/\k<w'.heap.size))
    (m3:SlotOK M' w' [] ⟨#[],[]⟩ v (mkRes sp.multi sp.own sp.res r)) (m4:∀ k,ownS (mkRes sp.multi sp.own sp.res r)=true->ownB v=some k->w.heap.size<=k\/ownB (tm a h)=some k) :
    Fr F w w'/\Good M0 F M' (app (wrTake o sp h r) st) (a.put o.dst v) w':=by
  obtain ⟨hg0,hfree⟩:=hg.forget hx
  have harr:ArrAt M w e (tm a h) xs:=by have:=hg.slot h;rw [hx] at this;exact this
  have hall:∀ k,ownB (tm a h)=some k->(∀ o,M k o)/\∃ cells T,w.heap[k]? = some (.cells cells T (0,0)):=by
    intro k hk
    rcases harr with ⟨e1,_⟩|⟨g,cap,cells,T,e1,e2,_,_,_,e3,_⟩
    . rw [e1] at hk;simp [ownB] at hk
    . rw [e1] at hk;simp [ownB] at hk;subst hk;exact ⟨e3,cells,T,e2⟩
  have hst:Stable M w M' w':=fun b o u p q=>by
    have hlt:=cell_lt p
    have hne:ownB (tm a h)≠some b:=fun e=>q ((hall b e).1 o)
    refine ⟨(World.cell?_of_block (a:=⟨b,o,none⟩) (hb.block b ⟨hlt,hne⟩)).trans p,fun hm=>?_⟩
    rcases m2 b o hm with hm|⟨hm,_⟩
    . exact q hm
    . omega
  have hKD:KeepsD w w':=fun D c e=>by
    refine (hb.block D ⟨(Array.getElem?_eq_some_iff.1 e).1,fun h'=>?_⟩).trans e
    obtain ⟨_,cells,T,e2⟩:=hall D h'
    rw [e] at e2;cases e2
  have hFne:∀ b,F b->ownB (tm a h)≠some b:=fun b hF h'=>(hfree b h').1 hF
  have hblk:∀ i k b,owns (st.set h .und) a w i k b->w'.heap[b]? = w.heap[b]? := fun i k b ho=>hb.block b ⟨owns_lt hg0.slot ho,fun h'=>(hfree b h').2 i k ho⟩
  have hg1:Good M0 F M' (st.set h .und) a w':=by
    refine hg0.world hst hb.size (fun b o hm=>m1 b o (hFne b (hg.base b o hm)) (hg.up b o hm)) (fun b o hm=>?_) (fun b o hF hm=>?_) hKD fun i k b ho=>⟨hblk i k b ho,fun o hm=>m1 b o (fun h'=>(hfree b h').2 i k ho) hm⟩
    . rcases m2 b o hm with hm|⟨_,hm⟩
      . exact Nat.lt_of_lt_of_le (hg.lt b o hm) hb.size
      . exact hm
    . rcases m2 b o hm with hm|⟨hm,_⟩
      . exact hg.down b o hF hm
      . have:=hg.room _ hF;omega
  have hnb':NoBox (st.set h .und) o:=fun d hd=>by
    have h1:=nobox_of hnb d hd
    by_cases hdh:d=h
    . subst hdh
      rcases Nat.lt_or_ge d st.length with hl|hl
      . rw [get_set st d d _ hl,if_pos rfl];rfl
      . rw [get_oob (by rw [List.length_set];exact hl)];rfl
    . rcases Nat.lt_or_ge h st.length with hl|hl
      . rw [get_set st h d _ hl,if_neg hdh];exact h1
      . rw [List.set_eq_of_length_le hl];exact h1
  have hfr:∀ b,w.heap.size<=b\/ownB (tm a h)=some b->¬ F b/\∀ j l,¬ owns (st.set h .und) a w' j l b:=fun b hge=>by
    have hback:∀ j l,owns (st.set h .und) a w' j l b->owns (st.set h .und) a w j l b:=fun j l ho=>owns_world (fun i b ho'=>hblk i none b ho') ho
    rcases hge with hge|hge
    . exact ⟨fun hF=>absurd (hg.room _ hF) (by omega),fun j l ho=>absurd (owns_lt hg0.slot (hback j l ho)) (by omega)⟩
    . exact ⟨(hfree b hge).1,fun j l ho=>(hfree b hge).2 j l (hback j l ho)⟩
  refine ⟨⟨hb.os,hb.tape,hb.output,hb.size,fun b hF=>hb.block b ⟨hg.room b hF,hFne b hF⟩⟩,?_⟩
  show Good M0 F M' (app (wrRes o sp r) (st.set h .und)) (a.put o.dst v) w'
  unfold wrRes
  rcases mkRes_cases sp.multi sp.own sp.res r with hm|hm|⟨e,xs,hm⟩|⟨e,xs,hm⟩
  . rw [hm] at m3 ⊢;exact hg1.fin hnb' rfl m3
  . rw [hm] at m3 ⊢;exact hg1.fin hnb' rfl m3
  rotate_left
  . rw [hm] at m3 ⊢
    exact hg1.fin_arr hnb' m3 fun b hbb=>hfr b (m4 b (by rw [hm];rfl) hbb)
  . rw [hm] at m3 ⊢
    exact hg1.fin_own hnb' m3.1 m3.2 fun b hbb=>hfr b (m4 b (by rw [hm];rfl) hbb)
def fen (ro:Option Nat):Fence:=match ro with|none=>Fence.wide|some l=>Fence.wide.inRound l
theorem fen_fn (ro:Option Nat) (f:FuncId):(fen ro).fn f:=by cases ro<;>trivial
theorem fen_depth (ro:Option Nat):(fen ro).depth=none:=by cases ro<;>rfl
theorem calls_fen {ro:Option Nat} {n f:Nat} {args:Array Value} {w:World} {R:Ending->World->Prop} (h:Calls P f args w R):CallsIn (fen ro) n P f args w R:=by
  cases ro with
  | none=>exact callsIn_wide.2 h
  | some l=>exact CallsIn.inRound l (callsIn_wide.2 h)
theorem no_defer {c:Call} (ho:o.op = .defer c):vpre P Φ o st = .bad:=by simp [vpre,ho]
theorem semAt_of (h:vpre P Φ o st ≠ .bad) (ro:Option Nat):o.semAt (fen ro).round a.eval=execOp a.eval o :=
  Oper.semAt_eq _ _ _ fun _ e=>h (no_defer e)
theorem takeX_inj {t e b:Ty} (he:t = .prod (.list e) b) {x y:t.den} (h:takeX he x=takeX he y):x=y:=by
  subst he
  exact h
theorem take_sem {y:(sp:Spec)×sp.arg.den×Nat} (h:takeOf P Φ o st=some y) (ro:Option Nat):o.semAt (fen ro).round a.eval=execOp a.eval o :=
  Oper.semAt_eq _ _ _ fun c e=>by unfold takeOf at h;rw [e] at h;cases h
theorem eff_wp (hΦ:∀ g sp,sp∈Φ g->Contract P sp) (hI:∀ w,Fr F w0 w->Inv.I P w) {ro:Option Nat} {n:Nat} (hc:Conc F M0 w0 st a w) (hnb:dstBox o st=false) {wr:List (Nat×S)} (h:Eff P Φ o st wr) {K:Act->World->Prop} {Q:Exit->Act->World->Prop}
    (hK:∀ a' w',Conc F M0 w0 (app wr st) a' w'->K a' w'):o.wpIn (fen ro) n P a w K Q:=by
  obtain ⟨hb,M,hg⟩:=hc
  rcases h with ⟨y,r,hy,hr,rfl⟩|h
  . obtain ⟨h1,hk,e,t1,e2,he,xs,z,ys,hot,v1,v2,g1,g2,g3,g4,g5,g6,g7⟩:=op_take hg hy
    have hct:=hΦ _ _ h1
    unfold Contract at hct
    rw [hk] at hct
    have harr:ArrAt M w e (tm a y.2.2) xs:=by have:=hg.slot y.2.2;rw [g1] at this;exact this
    have hct:=hct e t1 e2 he xs z ys M w (tm a y.2.2) v1 v2 r (hI _ hb) harr g4 g5 g6 g7 hg.lt (fun x hx=>by
      have:x=y.2.1:=takeX_inj he (hx.trans g2.symm)
      rw [this];exact hr)
    refine ⟨fun f _=>fen_fn ro f,?_⟩
    rw [take_sem hy,g3]
    refine ⟨fun hd=>by rw [fen_depth] at hd;simp at hd,calls_fen (hct.mono fun e w' he=>?_)⟩
    obtain ⟨v,rfl,hb',M',m1,m2,m3,m4⟩:=he
    obtain ⟨f1,f2⟩:=hg.take hnb g1 hb' m1 m2 m3 m4
    exact hK _ _ ⟨hb.trans f1,M',f2⟩
  have hne:vpre P Φ o st ≠ .bad:=by
    rcases h with ⟨rd,h⟩|⟨i,n,rd,f,j,h,_⟩|⟨sp,x,rd,r,h,_⟩<;>rw [h]<;>simp
  refine ⟨fun f _=>fen_fn ro f,?_⟩
  rw [semAt_of hne]
  have fin:ORun P F M0 w0 o a w (app wr st)->o.uponIn (fen ro) n P a K Q ((execOp a.eval o).run P w):=by
    rintro ⟨v,w',hr,hb',M',hg'⟩
    rcases hr with hr|⟨hr,rfl⟩
    . rw [hr];exact hK _ _ ⟨hb',M',hg'⟩
    . rw [hr];exact hK _ _ ⟨hb',M',hg'⟩
  rcases h with ⟨rd,h⟩|⟨i,n,rd,f,j,h,hj,hij,rfl⟩|⟨sp,x,rd,r,h,hr,rfl⟩
  . exact fin (op_eff hg hb (nobox_of hnb) h rfl)
  . exact fin (op_cse hg hb (nobox_of hnb) h hj hij)
  . obtain ⟨h1,hk,vs,h2,h3⟩:=op_call hg h
    have hct:=hΦ _ _ h1
    unfold Contract at hct
    rw [hk] at hct
    have hct:=hct x M w vs (hI _ hb) h3 hg.lt
    rw [hr] at hct
    rw [h2]
    refine ⟨fun hd=>by rw [fen_depth] at hd;simp at hd,calls_fen (hct.mono fun e w' he=>?_)⟩
    obtain ⟨v,rfl,hb',hres⟩:=he
    obtain ⟨M',hg'⟩:=hg.res hnb hb' hres
    exact hK _ _ ⟨hb.trans (Fr.below hb' hg.room),M',hg'⟩
def eqB (a b:Bool):Bool:=a==b
def wantS (ops:Array Oper) (o:Oper) (st:St):Option Bool :=
  match o.guard with
  | none=>some true
  | some (j,want)=>match (ops[j]?).bind (·.dst) with
    | none=>none
    | some t=>match get st t with
      | .d .bool b=>some (eqB b want)
      | .tup .unit _=>some false
      | _=>none
def gBit (ops:Array Oper) (o:Oper):Nat :=
  match o.guard with
  | none=>0
  | some (j,_)=>match (ops[j]?).bind (·.dst) with
    | none=>0
    | some t=>bit t
theorem wantS_ok (hg:Good M0 F M st a w) {ops:Array Oper} {b:Bool} (h:wantS ops o st=some b):Region.wanted o (yielded ops a.tmps)=b:=by
  unfold wantS at h
  unfold Region.wanted
  split at h
  . rename_i hgd;rw [hgd];simpa using h
  . rename_i j want hgd
    rw [hgd]
    split at h
    . cases h
    . rename_i t ht
      split at h
      . rename_i b' e
        simp only [Option.some.injEq] at h
        have hs:=hg.slot t
        rw [e] at hs
        have hv:=slot_bool hs
        have hlt:t<a.tmps.size:=by
          rw [hg.size]
          rcases Nat.lt_or_ge t st.length with h'|h'
          . exact h'
          . rw [get_oob h'] at e;cases e
        have hy:yielded ops a.tmps j=some b':=by
          unfold yielded
          rw [ht]
          have:a.tmps[t]? = some (.bool b'):=by
            rw [<- hv]
            simp [tm,hlt]
          simp only [Option.bind_some,this]
          rfl
        dsimp only
        rw [hy]
        subst h
        generalize (show Bool from b')=c
        cases c<;>cases want<;>rfl
      . rename_i e
        simp only [Option.some.injEq] at h
        have hs:=hg.slot t
        rw [e] at hs
        obtain ⟨vs,hv,hvs⟩:=hs
        have hvs:vs=[]:=hvs
        subst hvs
        have hy:yielded ops a.tmps j=none:=by
          unfold yielded
          rw [ht]
          simp only [Option.bind_some]
          cases hx:a.tmps[t]? with
          | none=>rfl
          | some u =>
            have:tm a t=u:=by simp [tm,hx]
            rw [hv] at this
            subst this
            rfl
        dsimp only
        rw [hy,<- h]
        rfl
      . cases h
def Dec (P:Program) (Φ:Nat->List Spec) (ops:Array Oper) (o:Oper) (st:St) (g:Nat) (wr:List (Nat×S)):Prop :=
  dstBox o st=false/\∃ b,wantS ops o st=some b/\match b with
    | true=>g=gBit ops o ||| dstBit o ||| rdOf o st/\Eff P Φ o st wr
    | false=>g=gBit ops o ||| dstBit o/\wr=wrSkip o
theorem dec_wp (hΦ:∀ g sp,sp∈Φ g->Contract P sp) (hI:∀ w,Fr F w0 w->Inv.I P w) {ro:Option Nat} {n:Nat} (hc:Conc F M0 w0 st a w) {ops:Array Oper} {i:Nat} (hi:ops[i]? = some o) {g:Nat} {wr:List (Nat×S)} (h:Dec P Φ ops o st g wr)
    {K:Act->World->Prop} {Q:Exit->Act->World->Prop} (hK:∀ a' w',Conc F M0 w0 (app wr st) a' w'->K a' w'):wpOpIn (fen ro) n P ops Q i K a w:=by
  obtain ⟨hnb,b,hw,hrest⟩:=h
  have hc':=hc
  obtain ⟨hb,M,hg⟩:=hc'
  have hwant:=wantS_ok hg hw
  unfold wpOpIn
  simp only [hi]
  rw [hwant]
  cases b with
  | true =>
    rw [if_pos rfl]
    exact eff_wp hΦ hI hc hnb hrest.2 hK
  | false =>
    rw [if_neg (by simp)]
    obtain ⟨_,rfl⟩:=hrest
    exact ⟨fun f _=>fen_fn ro f,hK _ _ ⟨hb,M,hg.fin (nobox_of hnb) rfl ⟨[],rfl,rfl⟩⟩⟩
end
end Go.V
namespace Go.V
open Go.RowKit (Below)
section
variable {P : Program} {Φ : Nat → List Spec} {F : Nat → Prop} {M0 : Base} {w0 : World} {M : Mut} {st st' : St} {a : Act} {w : World} {o : Oper}
def homeEq (st st':St) (s:S):Prop :=
  match s with
  | .al h _ _ _=>get st' h=get st h
  | .fa h _=>get st' h=get st h
  | .ar h _ _=>get st' h=get st h
  | .ea h _ _ _=>get st' h=get st h
  | _=>True
structure Same (o:Oper) (st st':St):Prop where
  op:∀ x∈o.op.operands.toList,opnd st' x=opnd st x
  home:∀ x∈o.op.operands.toList,homeEq st st' (opnd st x)
theorem place_home {x:Operand} {s:S} {h off:Nat} (e:place x s=some (h,off)) (hx:opnd st' x=s) (hs:opnd st x=s) (hh:homeEq st st' s):get st' h=get st h:=by
  cases s with
  | box cs =>
    cases x with
    | tmp t =>
      simp only [place,Option.some.injEq,Prod.mk.injEq] at e
      obtain ⟨rfl,_⟩:=e
      exact hx.trans hs.symm
    | _=>simp [place] at e
  | fa h' off' =>
    have e2:h'=h:=by cases x<;>(simp [place] at e;exact e.1)
    subst e2
    exact hh
  | _=>cases x<;>simp [place] at e
theorem arrOf_same {h:Nat} {k:Option Nat} (e:get st' h=get st h):arrOf st' h k=arrOf st h k:=by
  unfold arrOf
  cases k<;>simp only [e]
theorem setArr_same {h:Nat} {k:Option Nat} {t:Ty} {xs:List t.den} (e:get st' h=get st h):setArr st' h k t xs=setArr st h k t xs:=by
  unfold setArr
  cases k<;>simp only [e]
theorem preLen_same {dst:List Nat} {rd:Nat} {T:TypeId} {s:S} (hh:homeEq st st' s):preLen P dst st' rd T s=preLen P dst st rd T s:=by
  unfold preLen
  cases s with
  | ar h k t =>
    have h2:get st' h=get st h:=hh
    simp only [arrOf_same h2]
  | d t x=>cases t<;>rfl
  | _=>rfl
theorem setFs_same {t:Ty}:∀ (ps:List (Nat×Operand)) (x:t.den),(∀ p∈ps,opnd st' p.2=opnd st p.2)->setFs t st' ps x=setFs t st ps x
  | [],_,_=>rfl
  | (i,p) :: ps,x,h=>by
    have h1:opnd st' p=opnd st p:=h (i,p) (by simp)
    simp only [setFs,h1]
    split
    . exact setFs_same ps _ fun q hq=>h q (by simp [hq])
    . rfl
theorem bnd_same {d:Int} {lo:Option Operand} (h:∀ x∈lo.toList,opnd st' x=opnd st x):bnd st' d lo=bnd st d lo:=by
  cases lo with
  | none=>rfl
  | some x=>simp only [bnd,h x (by simp)]
theorem preApp_same {mk:Bool} {dst:List Nat} {rd:Nat} {e:Ty} {x:Operand} {ys:List e.den} (hx:opnd st' x=opnd st x) (hh:homeEq st st' (opnd st x)):preApp mk dst st' rd e x ys=preApp mk dst st rd e x ys:=by
  unfold preApp
  rw [hx]
  cases e':opnd st x with
  | al h k t xs =>
    rw [e'] at hh
    have h2:get st' h=get st h:=hh
    clear hh
    cases k<;>simp only [h2]
  | _=>rfl
theorem preBuiltin_same {mk:Bool} {dst:List Nat} {rd:Nat} {b:Builtin} {Ts:List TypeId} {args:List Operand} (h:∀ x∈args,opnd st' x=opnd st x) (hh:∀ x∈args,homeEq st st' (opnd st x)) :
    preBuiltin P mk dst st' rd b Ts args=preBuiltin P mk dst st rd b Ts args:=by
  unfold preBuiltin
  split
  . rw [h _ (by simp)];exact preLen_same (hh _ (by simp))
  . split
    . unfold preAppend
      rw [h _ (by simp)]
      split
      . split
        . exact preApp_same (h _ (by simp)) (hh _ (by simp))
        . rfl
      . rfl
    . rfl
  . rename_i x y;rw [h x (by simp),h y (by simp)]
  . rename_i x y;rw [h x (by simp),h y (by simp)]
  . rfl
theorem capS_same:∀ (l:List Operand),(∀ x∈l,opnd st' x=opnd st x)->capS st' l=capS st l
  | [],_=>rfl
  | x :: l,h=>by simp only [capS,h x (by simp),capS_same l fun y hy=>h y (by simp [hy])]
theorem preMake_same {dst:List Nat} {rd g:Nat} {fs cs:List Operand} (h1:∀ x∈fs,opnd st' x=opnd st x) (h2:∀ x∈cs,opnd st' x=opnd st x):preMake st' dst rd g fs cs=preMake st dst rd g fs cs:=by
  unfold preMake
  split
  . rfl
  . rw [capS_same _ h2]
  . rw [h1 _ (by simp)]
  . rfl
theorem vpre_same (hs:Same o st st'):vpre P Φ o st'=vpre P Φ o st:=by
  obtain ⟨h,hh⟩:=hs
  cases ho:o.op<;>simp only [ho,Op.operands,Array.toList_append,Option.toList_toArray] at h hh<;>simp only [vpre,ho]
  case makeMap T r=>cases r<;>rfl
  case makeFunc fn firsts captured =>
    have key:∀ (l:List Operand),(∀ x∈l,opnd st' x=opnd st x)->l.mapM (fun x=>rawOf (opnd st' x))=l.mapM (fun x=>rawOf (opnd st x)):=by
      intro l hl
      induction l with
      | nil=>rfl
      | cons p l ih=>rw [List.mapM_cons,List.mapM_cons,hl p (by simp),ih fun q hq=>hl q (by simp [hq])]
    rw [key firsts.toList fun x hx=>h x (by simp [hx])]
    have k1:∀ x∈firsts.toList,opnd st' x=opnd st x:=fun x hx=>h x (by simp [hx])
    have k2:∀ x∈captured.toList,opnd st' x=opnd st x:=fun x hx=>h x (by simp [hx])
    split
    . split
      . split
        . rfl
        . exact preMake_same k1 fun x hx=>by simp at hx
      . exact preMake_same k1 k2
    . rfl
  case move x=>rw [h x (by simp)]
  case assign x =>
    have hx:=h x (by simp)
    have hhx:=hh x (by simp)
    rw [hx]
    cases e:opnd st x with
    | al h' k t xs =>
      rw [e] at hhx
      have h2:get st' h'=get st h':=hhx
      clear hhx
      cases k<;>simp only [h2]
    | ar h' k t =>
      rw [e] at hhx
      have h2:get st' h'=get st h':=hhx
      clear hhx
      cases k<;>simp only [h2]
    | _=>rfl
  case pick c x y=>rw [h c (by simp),h x (by simp),h y (by simp)]
  case box T x=>rw [h x (by simp)]
  case build T ps =>
    have hp:∀ p∈ps.toList,opnd st' p.2=opnd st p.2:=fun p hp=>h p.2 (by simp;exact ⟨p.1,by simpa using hp⟩)
    split
    . rw [setFs_same ps.toList _ hp]
    . rfl
  case buildSlice T n ps =>
    have hp:∀ p∈ps.toList,opnd st' p.2=opnd st p.2:=fun p hp=>h p.2 (by simp;exact ⟨p.1,by simpa using hp⟩)
    have key:∀ (e:Ty) (l:List (Nat×Operand)),(∀ p∈l,opnd st' p.2=opnd st p.2)->l.mapM (fun p=>(opnd st' p.2).as e)=l.mapM (fun p=>(opnd st p.2).as e):=by
      intro e l hl
      induction l with
      | nil=>rfl
      | cons p l ih=>rw [List.mapM_cons,List.mapM_cons,hl p (by simp),ih fun q hq=>hl q (by simp [hq])]
    split
    . rw [key _ _ hp]
    . rfl
  case load T x =>
    have hx:=h x (by simp)
    have hhx:=hh x (by simp)
    rw [hx]
    split
    . rfl
    . rename_i hm k u i e
      rw [e] at hhx
      have h2:get st' hm=get st hm:=hhx
      rw [arrOf_same h2]
    . split
      . rename_i hm off e
        rw [place_home e hx rfl hhx]
      . rfl
  case store T x y =>
    have hx:=h x (by simp)
    have hy:=h y (by simp)
    have hhx:=hh x (by simp)
    have hhy:=hh y (by simp)
    rw [hx,hy]
    split
    . rename_i hm k u i e
      rw [e] at hhx
      have h2:get st' hm=get st hm:=hhx
      simp only [arrOf_same h2,setArr_same h2]
    split
    . rename_i hm off _ e
      rw [place_home e hx rfl hhx]
      split
      . split
        . rename_i t0 _
          cases e':opnd st y with
          | al h' k t xs =>
            rw [e'] at hhy
            have h2:get st' h'=get st h':=hhy
            clear hhy
            cases t0<;>cases k<;>simp only [h2]
          | _=>cases t0<;>rfl
        . rfl
      . rfl
    . rfl
  case nilCheck x=>rw [h x (by simp)]
  case binOp op T x y T'=>rw [h x (by simp),h y (by simp)]
  case unOp op T x=>rw [h x (by simp)]
  case convert s t x=>rw [h x (by simp)]
  case makeInterface T x=>rw [h x (by simp)]
  case slice T x lo hi mx =>
    have h1:=h x (by simp)
    have hlo:∀ y∈lo.toList,opnd st' y=opnd st y:=fun y hy=>h y (by simp at hy;simp [hy])
    have hhi:∀ y∈hi.toList,opnd st' y=opnd st y:=fun y hy=>h y (by simp at hy;simp [hy])
    unfold preSlice preSliceStr preSliceList
    simp only [h1,bnd_same hlo,bnd_same hhi]
  case fieldAddr T x f=>rw [h x (by simp)]
  case field T x f=>rw [h x (by simp)]
  case indexAddr T x i =>
    rw [h x (by simp),h i (by simp)]
    have hhx:=hh x (by simp)
    cases e:opnd st x with
    | ar hm k t =>
      rw [e] at hhx
      have h2:get st' hm=get st hm:=hhx
      simp only [arrOf_same h2]
    | _=>rfl
  case index T x i=>rw [h x (by simp),h i (by simp)]
  case extract x i=>rw [h x (by simp)]
  case panic x=>rw [h x (by simp)]
  case makeSlice T n c=>rw [h n (by simp)]
  case range T x=>rw [h x (by simp)]
  case next x b=>rw [h x (by simp)]
  case typeAssert x T U b=>rw [h x (by simp)]
  case call c =>
    have hargs:∀ x∈c.args.toList,opnd st' x=opnd st x:=fun x hx=>h x (by simp [Call.operands] at hx ⊢;exact .inr hx)
    have hhargs:∀ x∈c.args.toList,homeEq st st' (opnd st x):=fun x hx=>hh x (by simp [Call.operands] at hx ⊢;exact .inr hx)
    unfold preCall
    cases hc:c.callee with
    | builtin b=>exact preBuiltin_same hargs hhargs
    | value f =>
      have hf:=h f (by simp [Call.operands,hc])
      simp only [hf]
      have hm:c.args.toList.map (opnd st')=c.args.toList.map (opnd st):=List.map_congr_left hargs
      have hclo:∀ g p q x rd,preClo P Φ st' rd g p q x c.args.toList=preClo P Φ st rd g p q x c.args.toList:=fun g p q x rd=>by unfold preClo;rw [hm]
      rw [hm]
      simp only [hclo]
    | invoke r m =>
      have hr:=h r (by simp [Call.operands,hc])
      have hm:c.args.toList.map (opnd st')=c.args.toList.map (opnd st):=List.map_congr_left hargs
      simp only [hr,preInvoke,hm]
theorem takeOf_same (hs:Same o st st'):takeOf P Φ o st'=takeOf P Φ o st:=by
  have h:∀ x∈o.op.operands.toList,opnd st' x=opnd st x:=hs.1
  unfold takeOf
  cases ho:o.op with
  | call c =>
    rw [ho] at h
    have hargs:∀ x∈c.args.toList,opnd st' x=opnd st x:=fun x hx=>h x (by simp [Op.operands,Call.operands] at hx ⊢;exact .inr hx)
    dsimp only
    split
    . rename_i f t x1 t2 hc ha
      have hf:opnd st' f=opnd st f:=h f (by simp [Op.operands,Call.operands,hc])
      have h1:get st' t=get st t:=hargs (.tmp t) (by rw [ha];simp)
      have h2:opnd st' x1=opnd st x1:=hargs x1 (by rw [ha];simp)
      have h3:get st' t2=get st t2:=hargs (.tmp t2) (by rw [ha];simp)
      rw [hf,h1,h2,h3]
    . rfl
  | _=>rfl
end
end Go.V
namespace Go.V
open Go.RowKit (Below)
section
variable {P : Program} [Inv P] {Φ : Nat → List Spec} {F : Nat → Prop} {M0 : Base} {w0 : World} {st st' : St} {a : Act} {w : World} {o : Oper} {ρ : Type}
theorem set_self {t:Nat} {s:S} (h:get st t=s) (hs:s ≠ .und):st.set t s=st:=by
  have hlt:t<st.length:=by
    rcases Nat.lt_or_ge t st.length with h'|h'
    . exact h'
    . rw [get_oob h'] at h;exact absurd h.symm hs
  apply List.ext_getElem?
  intro i
  by_cases e:i=t
  . subst e
    rw [List.getElem?_set_self hlt]
    unfold get at h
    rw [List.getD_eq_getElem?_getD,List.getElem?_eq_getElem hlt] at h
    rw [List.getElem?_eq_getElem hlt,<- h];rfl
  . rw [List.getElem?_set_ne (Ne.symm e)]
theorem caseOn_ok {i:Int} {f:Nat->Out ρ} {fin:Out ρ} (hf:fin ≠ .fail):∀ (n j:Nat),caseOn i f n j=fin->∃ m,m<j+n/\i=(m:Int)/\f m=fin
  | 0,j,h=>absurd h.symm hf
  | n+1,j,h=>by
    unfold caseOn at h
    cases hb:i==(j:Int) with
    | true=>rw [hb] at h;exact ⟨j,by omega,by simpa using hb,h⟩
    | false =>
      rw [hb] at h
      obtain ⟨m,h1,h2,h3⟩:=caseOn_ok hf n (j+1) h
      exact ⟨m,by omega,h2,h3⟩
def Pan (P:Program) (Φ:Nat->List Spec) (ops:Array Oper) (o:Oper) (st:St) (p:Value):Prop :=
  wantS ops o st=some true/\((∃ rd,vpre P Φ o st = .pan p rd)\/∃ (sp:Spec) (x:sp.arg.den) (rd:Nat),vpre P Φ o st = .call sp x rd/\sp.f x = .pan p)
theorem runOp_ok {kp:Nat->Value->Out ρ} {g:Nat} {k:Nat×Nat->St->Out ρ} {fin:Out ρ} (hf:fin ≠ .fail) (h:runOp P Φ kp o g k st=fin) :
    dstBox o st=false/\((∃ wr,Eff P Φ o st wr/\k (g ||| dstBit o ||| rdOf o st,wmask wr) (app wr st)=fin) \/
      (∃ p,kp (g ||| dstBit o ||| rdOf o st) p=fin/\((∃ rd,vpre P Φ o st = .pan p rd)\/∃ (sp:Spec) (x:sp.arg.den) (rd:Nat),vpre P Φ o st = .call sp x rd/\sp.f x = .pan p))):=by
  unfold runOp at h
  split at h
  . exact absurd h.symm hf
  rename_i hd
  refine ⟨hd,?_⟩
  split at h
  . rename_i y hy
    split at h
    . rename_i r hr
      exact .inl ⟨_,.inl ⟨y,r,hy,hr,rfl⟩,h⟩
    . exact absurd h.symm hf
  unfold runPre at h
  split at h
  . exact absurd h.symm hf
  . rename_i c rd wr e
    cases c with
    | true=>exact .inl ⟨wr,.inr (.inl ⟨rd,e⟩),h⟩
    | false=>exact absurd h.symm hf
  . rename_i i n rd wr e
    obtain ⟨m,h1,h2,h3⟩:=caseOn_ok hf n 0 h
    exact .inl ⟨wr m,.inr (.inr (.inl ⟨i,n,rd,wr,m,e,by omega,h2,rfl⟩)),h3⟩
  . rename_i sp x rd e
    split at h
    . rename_i r hr
      exact .inl ⟨_,.inr (.inr (.inr ⟨sp,x,rd,r,e,hr,rfl⟩)),h⟩
    . rename_i p hp
      exact .inr ⟨p,h,.inr ⟨sp,x,rd,e,hp⟩⟩
    . exact absurd h.symm hf
  . rename_i p rd e
    exact .inr ⟨p,h,.inl ⟨rd,e⟩⟩
theorem skipOp_ok {g:Nat} {k:Nat×Nat->St->Out ρ} {fin:Out ρ} (hf:fin ≠ .fail) (h:skipOp o g k st=fin):dstBox o st=false/\k (g ||| dstBit o,wmask (wrSkip o)) (app (wrSkip o) st)=fin:=by
  unfold skipOp at h
  split at h
  . exact absurd h.symm hf
  . rename_i hd;exact ⟨hd,h⟩
def PanG (P:Program) (Φ:Nat->List Spec) (ops:Array Oper) (o:Oper) (st:St) (g:Nat) (p:Value):Prop :=
  dstBox o st=false/\g=gBit ops o ||| dstBit o ||| rdOf o st/\Pan P Φ ops o st p
theorem vop_ok {kp:Nat->Value->Out ρ} {ops:Array Oper} {k:Nat×Nat->St->Out ρ} {fin:Out ρ} (hf:fin ≠ .fail) (h:vop P Φ kp ops o k st=fin) :
    (∃ g wr,Dec P Φ ops o st g wr/\k (g,wmask wr) (app wr st)=fin)\/(∃ g p,kp g p=fin/\PanG P Φ ops o st g p):=by
  unfold vop at h
  split at h
  . rename_i hgd
    have hw:wantS ops o st=some true:=by unfold wantS;rw [hgd]
    have hgb:gBit ops o=0:=by unfold gBit;rw [hgd]
    obtain ⟨hd,h1⟩:=runOp_ok hf h
    rcases h1 with ⟨wr,he,hk⟩|⟨p,hp,h2⟩
    . exact .inl ⟨_,wr,⟨hd,true,hw,by rw [hgb],he⟩,hk⟩
    . exact .inr ⟨_,p,hp,hd,by rw [hgb],hw,h2⟩
  . rename_i j want hgd
    split at h
    . exact absurd h.symm hf
    rename_i t ht
    have hgb:gBit ops o=bit t:=by unfold gBit;rw [hgd];dsimp only;rw [ht]
    split at h
    rotate_left
    . rename_i e
      obtain ⟨hd,h1⟩:=skipOp_ok hf h
      refine .inl ⟨_,wrSkip o,⟨hd,false,?_,by rw [hgb],rfl⟩,h1⟩
      unfold wantS;rw [hgd];dsimp only;rw [ht];dsimp only;rw [e]
    . exact absurd h.symm hf
    rename_i b e
    have hw:∀ b':Bool,get st t = .d .bool b'->wantS ops o st=some (eqB b' want):=fun b' e'=>by unfold wantS;rw [hgd];dsimp only;rw [ht];dsimp only;rw [e']
    have fin1:∀ b':Bool,get st t = .d .bool b'->eqB b' want=true->runOp P Φ kp o (bit t) k (st.set t (.d .bool b'))=fin ->
        (∃ g wr,Dec P Φ ops o st g wr/\k (g,wmask wr) (app wr st)=fin)\/(∃ g p,kp g p=fin/\PanG P Φ ops o st g p):=by
      intro b' e' hq hr
      rw [set_self e' (by simp)] at hr
      obtain ⟨hd,h1⟩:=runOp_ok hf hr
      have hw':=hw b' e'
      rw [hq] at hw'
      rcases h1 with ⟨wr,he,hk⟩|⟨p,hp,h2⟩
      . exact .inl ⟨_,wr,⟨hd,true,hw',by rw [hgb],he⟩,hk⟩
      . exact .inr ⟨_,p,hp,hd,by rw [hgb],hw',h2⟩
    have fin2:∀ b':Bool,get st t = .d .bool b'->eqB b' want=false->skipOp o (bit t) k (st.set t (.d .bool b'))=fin ->
        (∃ g wr,Dec P Φ ops o st g wr/\k (g,wmask wr) (app wr st)=fin)\/(∃ g p,kp g p=fin/\PanG P Φ ops o st g p):=by
      intro b' e' hq hr
      rw [set_self e' (by simp)] at hr
      obtain ⟨hd,h1⟩:=skipOp_ok hf hr
      have hw':=hw b' e'
      rw [hq] at hw'
      exact .inl ⟨_,wrSkip o,⟨hd,false,hw',by rw [hgb],rfl⟩,h1⟩
    split at h
    . split at h
      . exact fin1 true e rfl h
      . exact fin2 true e rfl h
    . split at h
      . exact fin1 false e rfl h
      . exact fin2 false e rfl h
theorem pan_wp (hΦ:∀ g sp,sp∈Φ g->Contract P sp) (hI:∀ w,Fr F w0 w->Inv.I P w) {ro:Option Nat} {n:Nat} (hc:Conc F M0 w0 st a w) {ops:Array Oper} {i:Nat} (hi:ops[i]? = some o) {p:Value} (h:Pan P Φ ops o st p) {K:Act->World->Prop} {Q:Exit->Act->World->Prop}
    (hQ:∀ q w',Like p q->Conc F M0 w0 st a w'->Q (.panic [{ v:=q,recovered:=false }]) a w'):wpOpIn (fen ro) n P ops Q i K a w:=by
  obtain ⟨hw,h⟩:=h
  have hc':=hc
  obtain ⟨hb,M,hg⟩:=hc'
  have hne:vpre P Φ o st ≠ .bad:=by
    rcases h with ⟨rd,h⟩|⟨sp,x,rd,h,_⟩<;>rw [h]<;>simp
  unfold wpOpIn
  simp only [hi]
  rw [wantS_ok hg hw,if_pos rfl]
  refine ⟨fun f _=>fen_fn ro f,?_⟩
  rw [semAt_of hne]
  rcases h with ⟨rd,h⟩|⟨sp,x,rd,h,hp⟩
  . rw [op_panic hg h];exact hQ p w (Like.refl p) hc
  . obtain ⟨h1,hk,vs,h2,h3⟩:=op_call hg h
    have hct:=hΦ _ _ h1
    unfold Contract at hct
    rw [hk] at hct
    have hct:=hct x M w vs (hI _ hb) h3 hg.lt
    rw [hp] at hct
    rw [h2]
    refine ⟨fun hd=>by rw [fen_depth] at hd;simp at hd,calls_fen (hct.mono fun e w' he=>?_)⟩
    obtain ⟨⟨q,hq,rfl⟩,hb'⟩:=he
    exact hQ q w' hq ⟨hb.trans (Fr.below hb' hg.room),M,hg.below hb'⟩
theorem vlex_seq (hΦ:∀ g sp,sp∈Φ g->Contract P sp) (hI:∀ w,Fr F w0 w->Inv.I P w) {ro:Option Nat} {n:Nat} {ops:Array Oper} {kp:Nat->Value->Out ρ} {k:St->Out ρ} {fin:Out ρ} (hf:fin ≠ .fail) {Q:Exit->Act->World->Prop}
    (hpan:∀ g p q,kp g p=fin->Like p q->∀ st a w,Conc F M0 w0 st a w->Q (.panic [{ v:=q,recovered:=false }]) a w)
    (hk:∀ st a w,Conc F M0 w0 st a w->k st=fin->Q .normal a w) :
    ∀ (l:List Oper) (i:Nat) (st:St) (a:Act) (w:World),(∀ j,l[j]? = ops[i+j]?)->Conc F M0 w0 st a w->vlex P Φ kp ops k l st=fin->wpOpsIn (fen ro) n P ops Q (List.range' i l.length) a w
  | [],i,st,a,w,_,hc,h=>hk st a w hc h
  | o :: l,i,st,a,w,hl,hc,h=>by
    have hi:ops[i]? = some o:=by simpa using (hl 0).symm
    simp only [List.length_cons,List.range'_succ]
    rw [wpOpsIn_cons]
    unfold vlex at h
    rcases vop_ok hf h with ⟨g,wr,hd,hk'⟩|⟨g,p,hp,_,_,hpn⟩
    . exact dec_wp hΦ hI hc hi hd fun a' w' hc'=>vlex_seq hΦ hI hf hpan hk l (i+1) _ a' w' (fun j=>by have:=hl (j+1);simpa [Nat.add_assoc,Nat.add_comm 1 j] using this) hc' hk'
    . exact pan_wp hΦ hI hc hi hpn fun q w' hq hc'=>hpan g p q hp hq _ _ _ hc'
structure Rec where
  g:Nat
  wr:List (Nat×S)
  out:Bool
def Rec.mask (r:Rec):Nat×Nat:=(r.g,wmask r.wr)
def Chain (P:Program) (Φ:Nat->List Spec) (ops:Array Oper) (W:Nat->Nat->Prop) (p:Value) (all:List Rec):List Oper->List Rec->Nat->St->Prop
  | [],[],_,_=>True
  | o :: l,r :: rs,i,st=>(match r.out with
      | false=>Dec P Φ ops o st r.g r.wr/\Chain P Φ ops W p all l rs (i+1) (app r.wr st)
      | true=>r.wr=[]/\((∃ q,Like p q/\PanG P Φ ops o st r.g q)\/∃ j r',j<i/\all[j]? = some r'/\r'.out=true/\W j i)/\Chain P Φ ops W p all l rs (i+1) st)
  | _,_,_,_=>False
theorem testBit_bit (t i:Nat):(bit t).testBit i=decide (i=t):=by
  unfold bit
  rw [Nat.shiftLeft_eq,Nat.one_mul,Nat.testBit_two_pow]
  by_cases h:t=i
  . simp [h]
  . simp [h,Ne.symm h]
theorem testBit_wmask (wr:List (Nat×S)) (t:Nat):(wmask wr).testBit t=wr.any fun p=>decide (t=p.1):=by
  have key:∀ (wr:List (Nat×S)) (m:Nat),(wr.foldl (fun m p=>m ||| bit p.1) m).testBit t=(m.testBit t || wr.any fun p=>decide (t=p.1)):=by
    intro wr
    induction wr with
    | nil=>intro m;simp
    | cons p wr ih=>intro m;rw [List.foldl_cons,ih,Nat.testBit_or,testBit_bit,List.any_cons,Bool.or_assoc]
  have:=key wr 0
  simpa [wmask] using this
def last (wr:List (Nat×S)) (t:Nat) (s:S):S:=wr.foldl (fun s p=>if t=p.1 then p.2 else s) s
theorem get_app:∀ (wr:List (Nat×S)) (st:St) (t:Nat),t<st.length->get (app wr st) t=last wr t (get st t)
  | [],st,t,_=>rfl
  | p :: wr,st,t,h=>by
    have:=get_app wr (st.set p.1 p.2) t (by simpa using h)
    unfold app last at *
    rw [List.foldl_cons,List.foldl_cons,this]
    congr 1
    by_cases e:t=p.1
    . subst e;rw [get_set st _ _ _ h]
    . rw [get_set_ne st _ e,if_neg e]
theorem length_app:∀ (wr:List (Nat×S)) (st:St),(app wr st).length=st.length
  | [],_=>rfl
  | p :: wr,st=>by have:=length_app wr (st.set p.1 p.2);unfold app at *;rw [List.foldl_cons,this];simp
theorem last_skip {wr:List (Nat×S)} {t:Nat} {s:S} (h:(wmask wr).testBit t=false):last wr t s=s:=by
  rw [testBit_wmask] at h
  induction wr generalizing s with
  | nil=>rfl
  | cons p wr ih =>
    simp only [List.any_cons,Bool.or_eq_false_iff,decide_eq_false_iff_not] at h
    unfold last
    rw [List.foldl_cons,if_neg h.1]
    exact ih h.2
theorem last_over {wr:List (Nat×S)} {t:Nat} {s s':S} (h:(wmask wr).testBit t=true):last wr t s=last wr t s':=by
  rw [testBit_wmask] at h
  induction wr generalizing s s' with
  | nil=>simp at h
  | cons p wr ih =>
    unfold last
    rw [List.foldl_cons,List.foldl_cons]
    by_cases e:t=p.1
    . rw [if_pos e,if_pos e]
    . simp only [List.any_cons,Bool.or_eq_true,decide_eq_true_eq] at h
      rw [if_neg e,if_neg e]
      exact ih (by simpa using h.resolve_left e)
end
end Go.V
