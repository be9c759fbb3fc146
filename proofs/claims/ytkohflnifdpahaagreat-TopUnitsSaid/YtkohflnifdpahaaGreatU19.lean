/- A part of the proof of TopUnitsSaid: no condition beyond what each theorem says. -/
import Derived.Test.YtkohflnifdpahaaGreatU10
import Derived.OrdersHeld
import Derived.Test.YtkohflnifdpahaaGreatU17
import Derived.Test.YtkohflnifdpahaaGreatU18
import Derived.Test.YtkohflnifdpahaaGreatU16
set_option linter.all false
namespace Go.V
open Go.Proofs
open Go.RowKit (Below)
section
variable {P : Program} {ops : Array Oper} {Q : Exit → Act → World → Prop} {S : World → Prop} {t : Nat}
def wpAnyT (P:Program) (ops:Array Oper) (Q:Exit->Act->World->Prop) (S:World->Prop) (t:Nat):Nat->Array Bool->Act->World->Prop
 | 0,listed,a,w=>Region.ready .any ops listed=[]/\Q .normal a w
 | fuel+1,listed,a,w =>
  (Region.ready .any ops listed=[]->Q .normal a w) /\
  ∀ i∈Region.ready .any ops listed,wpOp P ops Q i (fun a' w'=>(i≠t->S w')/\wpAnyT P ops Q S t fuel (listed.setIfInBounds i true) a' w') a w
theorem wpAny_of_T:∀ (fuel:Nat) (listed:Array Bool) (a:Act) (w:World),wpAnyT P ops Q S t fuel listed a w->wpAny P .any ops Q fuel listed a w
 | 0,_,_,_,h=>h
 | fuel+1,_,_,_,h=>⟨h.1,fun i hi=>wpOp_mono (fun a' w' h'=>wpAny_of_T fuel _ a' w' h'.2) (h.2 i hi)⟩
theorem wpAnyT_first {i:Nat} {oi ot:Oper} {v:Value} (hi:ops[i]? = some oi) (hot:ops[t]? = some ot) (hti:∃ e∈ot.after,Region.binds .any e=true/\e.on=i) (hsel:∀ (j:Nat) (o:Oper) cs b,ops[j]? = some o->o.op ≠ .select cs b)
 (hQ:∀ c a w,Q (.panic c) (a.put oi.dst v) w->Q (.panic c) a w) :
 ∀ (fuel:Nat) (listed:Array Bool) (a:Act) (w:World),
  (∀ j oj,ops[j]? = some oj->j≠i->listed.getD j true=false->(∀ e∈oj.after,Region.binds .any e=true->e.on≠i)->oi.apart ops oj=true) ->
  i∈Region.ready .any ops listed->YieldsIf P ops S oi v a->S w ->
  wpAnyT P ops Q S t fuel (listed.setIfInBounds i true) (a.put oi.dst v) w->wpAnyT P ops Q S t (fuel+1) listed a w:=by
 intro fuel
 induction fuel with
 | zero =>
  intro listed a w _ hr hy hS H
  refine ⟨fun h=>(by rw [h] at hr;cases hr),fun j hj=>?_⟩
  by_cases hji:j=i
  . subst hji;exact hy.wpOp hi hS ⟨fun _=>hS,H⟩
  . have:=ready_mono hj hji
    rw [H.1] at this
    cases this
 | succ fuel ih =>
  intro listed a w hfree hr hy hS H
  refine ⟨fun h=>(by rw [h] at hr;cases hr),fun j hj=>?_⟩
  by_cases hji:j=i
  . subst hji;exact hy.wpOp hi hS ⟨fun _=>hS,H⟩
  . have h1:=H.2 j (ready_mono hj hji)
    obtain ⟨hjun,oj,hoj,hall⟩:=mem_ready.1 hj
    have hnot:∀ e∈oj.after,Region.binds .any e=true->e.on≠i:=fun e he hb heq=>by
     have h1:=hall e he hb
     have h0:=(mem_ready.1 hr).1
     rw [heq] at h1
     rcases Nat.lt_or_ge i listed.size with h'|h'
     . simp [h'] at h0 h1;rw [h0] at h1;cases h1
     . simp [Array.getElem?_eq_none h'] at h1
    have hjt:j≠t:=fun e=>by
     subst e
     rw [hot] at hoj;cases hoj
     obtain ⟨e,he,hb,hon⟩:=hti
     exact hnot e he hb hon
    have h2:=wpOp_putIf hoj (hfree j oj hoj hji hjun hnot) (fun cs b=>hsel i oi cs b hi) (fun cs b=>hsel j oj cs b hoj) hQ hy h1
    have hfree':∀ k ok,ops[k]? = some ok->k≠i->(listed.setIfInBounds j true).getD k true=false ->
     (∀ e∈ok.after,Region.binds .any e=true->e.on≠i)->oi.apart ops ok=true:=fun k ok hk hki hun hno=>by
     refine hfree k ok hk hki ?_ hno
     by_cases hjk:j=k
     . subst hjk;exact hjun
     . rw [getD_set_ne true hjk] at hun;exact hun
    refine wpOp_mono (fun a' w' h3=>⟨h3.2.1,ih (listed.setIfInBounds j true) a' w' hfree' (ready_mono hr (Ne.symm hji)) h3.1 (h3.2.1 hjt) ?_⟩) h2
    rw [Array.setIfInBounds_comm _ _ hji]
    exact h3.2.2
def waitsD (ops:Array Oper) (t i:Nat):Bool:=match ops[t]? with
 | some o=>o.after.any fun e=>Region.binds .any e && e.on==i
 | none=>false
theorem waitsD_spec {i:Nat} (h:waitsD ops t i=true):∃ ot,ops[t]? = some ot/\∃ e∈ot.after,Region.binds .any e=true/\e.on=i:=by
 unfold waitsD at h
 split at h
 . rename_i o ho
   obtain ⟨k,hk,he⟩:=Array.any_eq_true.1 h
   simp only [Bool.and_eq_true,beq_iff_eq] at he
   exact ⟨o,ho,o.after[k],Array.getElem_mem hk,he.1,he.2⟩
 . cases h
theorem held_read {i:Nat} {d:Nat} {op:Op} {v:Value} {fuel:Nat} {L:Array Bool} {a:Act} {w:World} (hx:(ops.toList.map opInfo)[i]? = some (some d,op,none)) (hs:Region.noSelect ops=true) (hf:Region.free .any ops L i=true) (hr:(Region.ready .any ops L).contains i=true) (ht:waitsD ops t i=true)
 (hQ:∀ c a w,¬ Q (.panic c) a w) (hy:∀ o:Oper,o.op=op->∀ w,S w->(execOp a.eval o).run P w = .ok (.value v) w) (hS:S w)
 (h:wpAnyT P ops Q S t fuel (L.setIfInBounds i true) (a.put (some d) v) w):wpAnyT P ops Q S t (fuel+1) L a w:=by
 obtain ⟨o,hi,hd,ho,hg⟩:=infoAt rfl hx
 simp only at hd ho hg
 obtain ⟨ot,hot,hti⟩:=waitsD_spec ht
 refine wpAnyT_first hi hot hti (Region.noSelect_spec hs) (fun c a w h=>absurd h (hQ c _ w)) fuel L a w (Region.free_spec hi hf) (by simpa using hr) (.inl ⟨wanted_none hg,fun w hS=>hy o ho w hS⟩) hS ?_
 rw [hd];exact h
theorem held_step {i:Nat} {dst:Option Nat} {op:Op} {fuel:Nat} {L:Array Bool} {a:Act} {w w':World} (hx:(ops.toList.map opInfo)[i]? = some (dst,op,none)) (hr:Region.ready .any ops L=[i]) {r:Next} {v:Value}
 (hrun:∀ o:Oper,o.op=op->(execOp a.eval o).run P w = .ok r w') (hrv:r = .value v\/(r = .skip/\v=undef)) (hS:i≠t->S w') (h:wpAnyT P ops Q S t fuel (L.setIfInBounds i true) (a.put dst v) w'):wpAnyT P ops Q S t (fuel+1) L a w:=by
 obtain ⟨o,hi,hd,ho,hg⟩:=infoAt rfl hx
 simp only at hd ho hg
 refine ⟨fun h0=>(by rw [h0] at hr;cases hr),fun j hj=>?_⟩
 rw [hr,List.mem_singleton] at hj
 subst hj
 unfold wpOp
 simp only [hi,wanted_none hg,if_true]
 left
 have:=hrun o ho
 unfold Oper.wp
 rcases hrv with rfl|⟨rfl,rfl⟩
 . rw [this];simp only [Oper.upon];rw [hd];exact ⟨hS,h⟩
 . rw [this];simp only [Oper.upon];rw [hd];exact ⟨hS,h⟩
theorem held_enter {i:Nat} {dst:Option Nat} {op:Op} {fuel:Nat} {L:Array Bool} {a:Act} {w:World} (hx:(ops.toList.map opInfo)[i]? = some (dst,op,none)) (hr:Region.ready .any ops L=[i]) {f:FuncId} {args:Array Value}
 (hrun:∀ o:Oper,o.op=op->(execOp a.eval o).run P w = .ok (.enter f args) w) (hK:Calls P f args w fun e w'=>∃ v,e = .returned v/\(i≠t->S w')/\wpAnyT P ops Q S t fuel (L.setIfInBounds i true) (a.put dst v) w'):wpAnyT P ops Q S t (fuel+1) L a w:=by
 obtain ⟨o,hi,hd,ho,hg⟩:=infoAt rfl hx
 simp only at hd ho hg
 refine ⟨fun h0=>(by rw [h0] at hr;cases hr),fun j hj=>?_⟩
 rw [hr,List.mem_singleton] at hj
 subst hj
 unfold wpOp
 simp only [hi,wanted_none hg,if_true]
 left
 unfold Oper.wp
 rw [hrun o ho,Oper.upon_enter]
 refine hK.mono ?_
 rintro e w' ⟨v,rfl,h⟩
 rw [hd]
 exact h
theorem held_done {L:Array Bool} {a:Act} {w:World} (hr:Region.ready .any ops L=[]) (h:Q .normal a w):∀ fuel,wpAnyT P ops Q S t fuel L a w
 | 0=>⟨hr,h⟩
 | _+1=>⟨fun _=>h,by rw [hr];simp⟩
def calmQ (Q:Exit->Act->World->Prop):Exit->Act->World->Prop
 | .panic _,_,_=>False
 | e,a,w=>Q e a w
theorem held_begin {id n:Nat} {a:Act} {w:World} (hm:P.follows .mixedOrders=true) (S:World->Prop) (t:Nat)
 (h:wpAnyT P ops (calmQ Q) S t ops.size (Array.replicate ops.size false) a w.drew):(Code.region id ops true).wpIn (fen none) n P Q a w:=by
 refine wpIn_wide.2 (Code.wp_mono (fun e a w h=>?_) (wp_region_any hm (wpAny_of_T _ _ _ _ h)))
 cases e<;>first|exact h|exact (h:False).elim
end
end Go.V
namespace Go.V
open Go.Proofs
open Go.RowKit (Below)
abbrev GI:Type:=Int->Option Int
def dI (a:Int):DU:=.lit (.int .i64 a)
theorem dI_inj {a b:Int} (h:dI a=dI b):a=b:=by
 simp only [dI,DataW.lit.injEq,Lit.int.injEq,true_and] at h
 exact h
def RsI (v:Value):Option (DU×List MemPlace) :=
 match v with
 | .int .i64 a=>some (dI a,[])
 | _=>none
theorem RsI_inv {v:Value} {y:DU×List MemPlace} (h:RsI v=some y):∃ a,v = .int .i64 a/\y=(dI a,[]):=by
 unfold RsI at h
 split at h
 . cases h;exact ⟨_,rfl,rfl⟩
 . cases h
structure ReadsI (D:DU) (g:GI):Prop where
 isMap:Maps.IsMap D
 at_:∀ k p,g k=some p->∀ z,D.atKey (.int .i64 k) z=dI p
 miss:∀ k,rng k=true->g k=none->∀ z,D.atKey (.int .i64 k) z=z
def updI (g:GI) (k p:Int):GI:=fun j=>if j=k then some p else g j
theorem ReadsI.empty:ReadsI (.map []) (fun _=>none):=⟨⟨[],rfl⟩,fun _ _ h=>(by cases h),fun _ _ _ _=>rfl⟩
theorem ReadsI.put {D:DU} {g:GI} (h:ReadsI D g) {k:Int} (p:Int):ReadsI (D.put (.int .i64 k) (dI p)) (updI g k p):=by
 have hkl:WideAt.IsKeyLit (.int .i64 k):=trivial
 have hne:∀ {j},j≠k->(Lit.int .i64 j) ≠ .int .i64 k:=fun h e=>h (by cases e;rfl)
 refine ⟨h.isMap.put _ _,fun j q hq z=>?_,fun j hj hq z=>?_⟩
 . unfold updI at hq
   by_cases e:j=k
   . subst e;rw [if_pos rfl] at hq;cases hq;exact Maps.atKey_put_same h.isMap hkl _ _
   . rw [if_neg e] at hq;rw [Maps.atKey_put_other (hne e)];exact h.at_ j q hq z
 . unfold updI at hq
   by_cases e:j=k
   . subst e;rw [if_pos rfl] at hq;cases hq
   . rw [if_neg e] at hq;rw [Maps.atKey_put_other (hne e)];exact h.miss j hj hq z
def MapI (g:GI) (n m:Nat) (w:World):Prop:=∃ D,w.ownsMap Tryz.prog 3 RsI m n D/\ReadsI D g
theorem MapI.keep {g:GI} {n m:Nat} {w w':World} (h:MapI g n m w) (hk:w'.heap[m]? = w.heap[m]?):MapI g n m w':=by
 obtain ⟨D,⟨es,c,h1,h2⟩,h3⟩:=h
 exact ⟨D,⟨es,c,hk.trans h1,h2⟩,h3⟩
theorem MapI.block {g:GI} {n m:Nat} {w:World} (h:MapI g n m w):∃ es c,w.heap[m]? = some (.map es c):=by
 obtain ⟨D,⟨es,c,h1,h2⟩,h3⟩:=h
 exact ⟨es,c,h1⟩
theorem MapI.empty {w:World} {m:Nat} (h:w.heap[m]? = some (.map #[] 0)):MapI (fun _=>none) 0 m w:=⟨.map [],⟨#[],0,h,⟨by simp,MapKept.stamped_empty 0,by simp⟩,Nat.le_refl _,rfl⟩,ReadsI.empty⟩
theorem MapI.look {g:GI} {n m:Nat} {w:World} (h:MapI g n m w) {k:Int} (hk:rng k=true):(Instr.lookup 91 (.map (some m)) (.int .i64 k) false).run Tryz.prog w = .ok (.int .i64 ((g k).getD 0)) w:=by
 obtain ⟨D,h1,h2⟩:=h
 obtain ⟨v,ps,hr,hv⟩:=h1.lookup keyI.law und91 (zero3 w) (show RsI (.int .i64 0)=some (dI 0,[]) from rfl) (key3 hk)
 rw [hr]
 obtain ⟨a,rfl,e⟩:=RsI_inv hv
 have e1:D.atKey (.int .i64 k) (dI 0)=dI a:=congrArg (·.1) e
 cases hg:g k with
 | none =>
  rw [h2.miss k hk hg] at e1
  rw [<- dI_inj e1]
  rfl
 | some p =>
  rw [h2.at_ k p hg] at e1
  rw [<- dI_inj e1]
  rfl
theorem MapI.put {g:GI} {n m:Nat} {w:World} (h:MapI g n m w) (hn:n<1000000) {k:Int} (hk:rng k=true) (x:Int):∃ es c,(Instr.mapUpdate 91 (.map (some m)) (.int .i64 k) (.int .i64 x)).run Tryz.prog w = .ok () (w.putObj m (.map es c))/\∀ w':World,w'.heap[m]? = some (.map es c)->MapI (updI g k x) (n+1) m w':=by
 obtain ⟨D,h1,h2⟩:=h
 obtain ⟨w1,hr,h3,es0,c0,es1,c1,hb,rfl⟩:=h1.store keyI.law und91 (by unfold maxLen;omega) (key3 hk) (show RsI (.int .i64 x)=some (dI x,[]) from rfl)
 refine ⟨es1,c1,hr,fun w' hw'=>⟨_,?_,h2.put x⟩⟩
 obtain ⟨es2,c2,e1,e2⟩:=h3
 have e3:(ChangeMaps.setBlock w m (.map es1 c1)).heap[m]? = some (.map es1 c1):=ChangeMaps.heap_setBlock_same hb _
 rw [e3] at e1
 cases e1
 exact ⟨es1,c1,hw',e2⟩
abbrev S52:Type:=Option (Value×GI×Nat)
def H52:Hole where
 σ:=S52
 hb s _ b:=∃ q:Value×GI×Nat,s=some q/\q.1 = .map (some b)
 I s _ w:=∀ q:Value×GI×Nat,s=some q->∃ m,q.1 = .map (some m)/\MapI q.2.1 q.2.2 m w
 keep s M w M' w' h _ hk:=fun q hq=>let ⟨m,e,hm⟩:=h q hq;⟨m,e,hm.keep (hk m ⟨q,hq,e⟩)⟩
 same s M w w' _ _ b h:=h
 lt s M w b h hb:=by
  obtain ⟨q,hq,e⟩:=hb
  obtain ⟨m,e',hm⟩:=h q hq
  rw [e] at e'
  cases e'
  obtain ⟨es,c,h1⟩:=hm.block
  exact (Array.getElem?_eq_some_iff.1 h1).1
 nd s M w b c h hb e0:=by
  obtain ⟨q,hq,e⟩:=hb
  obtain ⟨m,e',hm⟩:=h q hq
  rw [e] at e'
  cases e'
  obtain ⟨es,c,h1⟩:=hm.block
  rw [h1] at e0;cases e0
noncomputable def isM (s:S52) (v:Value) (k:Int):Bool:=match s with|some q=>isV v q.1 && rng k|none=>false
noncomputable def okM (s:S52) (v:Value) (k:Int):Bool:=match s with|some q=>isV v q.1 && (rng k && decide (q.2.2<1000000))|none=>false
def gM (s:S52) (k:Int):Int:=match s with|some q=>(q.2.1 k).getD 0|none=>0
def uM (s:S52) (k x:Int):S52:=match s with|some q=>some (q.1,updI q.2.1 k x,q.2.2+1)|none=>none
theorem isM_some {s:S52} {v:Value} {k:Int} (h:isM s v k=true):∃ q:Value×GI×Nat,s=some q/\v=q.1/\rng k=true:=by
 unfold isM at h
 split at h
 . rename_i q
   rw [Bool.and_eq_true] at h
   exact ⟨q,rfl,isV_eq h.1,h.2⟩
 . cases h
theorem okM_some {s:S52} {v:Value} {k:Int} (h:okM s v k=true):∃ q:Value×GI×Nat,s=some q/\v=q.1/\rng k=true/\q.2.2<1000000:=by
 unfold okM at h
 split at h
 . rename_i q
   rw [Bool.and_eq_true,Bool.and_eq_true,decide_eq_true_eq] at h
   exact ⟨q,rfl,isV_eq h.1,h.2⟩
 . cases h
section
variable {H : Hole} {F : Nat → Prop} {M0 : Base} {w0 : World} {s : H.σ} {st : St} {a : Act} {w : World}
theorem rawG (hc:ConcH H F M0 w0 s st a w) {j:Nat} {v:Value} (h:get st j = .d .raw v):tm a j=v:=by
 obtain ⟨hf,M,hG⟩:=hc
 have s1:=hG.2.1.slot j
 rw [h] at s1
 exact repV_raw (show RepV M w .raw (tm a j) v from s1)
theorem intG (hc:ConcH H F M0 w0 s st a w) {j:Nat} {x:Int} (h:get st j = .d (.int .i64) x):tm a j = .int .i64 x:=by
 obtain ⟨hf,M,hG⟩:=hc
 have s1:=hG.2.1.slot j
 rw [h] at s1
 exact slot_int s1
end
section
variable {F : Nat → Prop} {M0 : Base} {w0 : World} {s : H52.σ} {st : St} {a : Act} {w : World} {M : Mut}
theorem below52 {w':World} (hG:GoodH H52 F M0 s M st a w) (hb:Below w.heap.size w w'):Fr F w w'/\GoodH H52 F M0 s M st a w':=by
 refine hG.grow ⟨hb.os,hb.tape,hb.output,hb.size,fun k hk=>hb.block k hk.1⟩ ?_ (fun b o h=>.inr h) (fun b o h=>.inl h) (fun b h=>.inl h) fun b h o=>(hG.2.2 b h).2.1 o
 intro q hq
 obtain ⟨m,e,hm⟩:=hG.1 q hq
 exact ⟨m,e,hm.keep (hb.block m (H52.lt s M w m hG.1 ⟨q,hq,e⟩))⟩
theorem put52 (hc:ConcH H52 F M0 w0 s st a w) {q:Value×GI×Nat} (hq:s=some q) {m:Nat} (hm:q.1 = .map (some m)) {es:Array MapEntry} {c:Nat} {g:GI} {n:Nat} (hg:∀ w':World,w'.heap[m]? = some (.map es c)->MapI g n m w'):ConcH H52 F M0 w0 (some (q.1,g,n):S52) st a (w.putObj m (.map es c)):=by
 obtain ⟨hf,M,hG⟩:=hc
 have hb:H52.hb s w m:=⟨q,hq,hm⟩
 have hlt:=H52.lt s M w m hG.1 hb
 have hfr:Fr (fun k=>k<w.heap.size/\¬ H52.hb s w k) w (w.putObj m (.map es c)):=⟨rfl,rfl,rfl,by simp,fun k hk=>World.putObj_heap_other fun e=>hk.2 (e ▸ hb)⟩
 have hsub:∀ b w1,H52.hb (some (q.1,g,n):S52) w1 b->H52.hb s w b:=fun b w1 ⟨q',e1,e2⟩=>by cases e1;exact ⟨q,hq,e2⟩
 have key:∀ w1:World,(∀ k,H52.hb s w k->w1.heap[k]? = (w.putObj m (.map es c)).heap[k]?)->H52.I (some (q.1,g,n):S52) M w1:=by
  intro w1 hk q' e
  cases e
  exact ⟨m,hm,hg w1 ((hk m hb).trans (World.putObj_heap_same hlt))⟩
 obtain ⟨f1,hG'⟩:=hG.world (s':=(some (q.1,g,n):S52)) hfr (fun w1 _ hf1 hk=>⟨key w1 hk,fun b h=>hsub b w1 h⟩)
 exact ⟨hf.trans f1,M,hG'⟩
end
noncomputable def r52_1:Array Oper:=regAt 1 (bodyOf Tryz.f52)
theorem info52_1:r52_1.toList.map opInfo=[(some 9,.makeMap 91 none,none),(some 4,.assign (.tmp 9),none)]:=by kernel_rfl
noncomputable def mkM (s:H52.σ) (st:St):Bool×Outs H52:=(!isBox (get st 9) && (match (show S52 from s) with|none=>true|some _=>false),.each fun v=>((some (v,fun _=>none,0):S52),st.set 9 (.d .raw v)))
theorem mkM_ok:HandOp Tryz.prog H52 r52_1 0 mkM:=by
 intro F M0 w0 n hI hpl Q K s st a w hc h1 hK
 obtain ⟨o,hi,hd,ho,hg⟩:=infoAt info52_1 (i:=0) rfl
 simp only at hd ho hg
 unfold mkM at h1 hK
 rw [Bool.and_eq_true,Bool.not_eq_true'] at h1
 obtain ⟨hnb,hs⟩:=h1
 have hs:s=(none:S52):=by
  split at hs
  . rename_i e;exact e
  . cases hs
 refine opr_value (ro:=none) hi (wanted_none hg) (fun c h=>by rw [ho] at h;cases h) (ex_makeMap ho) ?_
 rw [hd]
 refine hK ((some (.map (some w.heap.size),fun _=>none,0):S52),st.set 9 (.d .raw (.map (some w.heap.size)))) ⟨_,rfl⟩ _ _ ?_
 obtain ⟨hf,M,hG⟩:=hc
 have hnew:(w.alloc (.map #[] 0)).heap[w.heap.size]? = some (.map #[] 0):=heap_alloc_new w _
 have hb:Below w.heap.size w (w.alloc (.map #[] 0)):=(Below.refl _ w).alloc (Nat.le_refl _) _
 have hbs:∀ b,H52.hb (some (.map (some w.heap.size),fun _=>none,0):S52) (w.alloc (.map #[] 0)) b->b=w.heap.size:=fun b ⟨q,e1,e2⟩=>by cases e1;cases e2;rfl
 obtain ⟨f1,f2⟩:=hG.grow (s':=(some (.map (some w.heap.size),fun _=>none,0):S52)) (M':=fun b o=>M b o\/b=w.heap.size) (w':=w.alloc (.map #[] 0)) ⟨hb.os,hb.tape,hb.output,hb.size,fun k hk=>hb.block k hk.1⟩
  (fun q e=>by cases e;exact ⟨_,rfl,MapI.empty hnew⟩) (fun b o h=>.inr (.inl h)) (fun b o h=>h.imp id fun e=>by subst e;exact ⟨Nat.le_refl _,by simp⟩) (fun b h=>.inr (by rw [hbs b h];exact Nat.le_refl _)) (fun b h o=>.inr (hbs b h))
 exact ⟨hf.trans f1,_,good_put f2 hnb (x:=.d .raw (.map (some w.heap.size))) rfl (v:=.map (some w.heap.size)) ⟨[_],rfl,rfl,rfl,rfl⟩⟩
noncomputable def r52_7:Array Oper:=regAt 7 (bodyOf Tryz.f52)
theorem info52_7:(r52_7.toList.map opInfo)[8]? = some (none,.mapUpdate 91 (.tmp 27) (.tmp 29) (.tmp 34),none):=by kernel_rfl
noncomputable def putM (s:H52.σ) (st:St):Bool×Outs H52 :=
 match get st 27,get st 29,get st 34 with
 | .d .raw v,.d (.int .i64) k,.d (.int .i64) x=>(okM s v k,.some [((uM s k x:S52),st)])
 | _,_,_=>(false,.some [])
theorem putM_ok:HandOp Tryz.prog H52 r52_7 8 putM:=by
 intro F M0 w0 n hI hpl Q K s st a w hc h1 hK
 obtain ⟨o,hi,hd,ho,hg⟩:=infoAt rfl info52_7
 simp only at hd ho hg
 unfold putM at h1 hK
 split at h1
 rotate_left
 . cases h1
 rename_i v k x e27 e29 e34
 rw [e27,e29,e34] at hK
 obtain ⟨q,hq,hv,hr,hn⟩:=okM_some h1
 have t27:tm a 27=q.1:=(rawG hc e27).trans hv
 have t29:=intG hc e29
 have t34:=intG hc e34
 obtain ⟨hf,M,hG⟩:=id hc
 obtain ⟨m,hm,hmap⟩:=hG.1 q hq
 obtain ⟨es,c,hrun,hnew⟩:=hmap.put hn hr x
 rw [hm] at t27
 refine opr_skipped (ro:=none) hi (wanted_none hg) (fun c h=>by rw [ho] at h;cases h) (ex_put ho t27 t29 t34 hrun) ?_
 rw [hd,put_none]
 refine hK ((uM s k x:S52),st) (.head _) _ _ ?_
 have e:uM s k x=(some (q.1,updI q.2.1 k x,q.2.2+1):S52):=by rw [show s=(some q:S52) from hq];rfl
 rw [e]
 exact put52 hc hq hm hnew
theorem leave_hole {P:Program} [Inv P] {H:Hole} {fn:Func} {res:Ty} {multi own:Bool} {s s':H.σ} {st:St} {a:Act} {w w':World} {M:Mut} {r:res.den} {R:Ending->World->Prop} (hlt:∀ b o,M b o->b<w.heap.size) (hh:∀ b,H.hb s w b->∀ o,M b o)
 (hc:ConcH H (fun k=>k<w.heap.size/\¬ H.hb s w k) (baseH (H.hb s w) M w) w s' st a w') (hv:vres P fn.results.toList multi own res st = .ret r)
 (hR:∀ v w2,(Fr (fun k=>k<w.heap.size/\¬ H.hb s w k) w w2/\(∀ b,H.hb s' w2 b->H.hb s w b\/w.heap.size<=b) /\
  ∃ M',H.I s' M' w2/\(∀ b o,M b o->H.hb s w b\/M' b o)/\(∀ b o,M' b o->M b o\/(w.heap.size<=b/\b<w2.heap.size))/\(∀ b,H.hb s' w2 b->∀ o,M' b o)/\SlotOK M' w2 [] ⟨#[],[]⟩ v (mkRes multi own res r))->R (.returned v) w2) :
 LeavesInM Fence.wide 0 P fn a.tmps R a.defers .returning w':=by
 obtain ⟨hfr,M',hG⟩:=hc
 refine leave (M0:=apartB (baseH (H.hb s w) M w) (H.hb s' w') M' w') (F:=fun b=>(b<w.heap.size/\¬ H.hb s w b)\/H.hb s' w' b) (w0:=w') (st:=st) (by simp) (fun M2 w2 hg2 hf2=>?_) (fun D hD hF=>hF.elim hD.1 hD.2) a.defers M' w' hG.focus (Fr.refl _ _)
 obtain ⟨r',h1,v,h2,h3,h4⟩:=vres_ok (fn:=fn) hg2 (by simp) hv
 cases h1
 have hG2:=hG.unfocus hf2 hg2
 refine ⟨v,h2,hR v w2 ⟨hfr.trans (fr_left hf2),fun b hb=>?_,M2,hG2.1,fun b o hM=>?_,fun b o hM=>?_,fun b hb=>(hG2.2.2 b hb).2.1,h3⟩⟩
 . rcases Nat.lt_or_ge b w.heap.size with h5|h5
   . by_cases h6:H.hb s w b
     . exact .inl h6
     . exact absurd ⟨h5,h6⟩ (hG2.2.2 b hb).1
   . exact .inr h5
 . by_cases h6:H.hb s w b
   . exact .inl h6
   . exact .inr (hG2.2.1.up b o ⟨hM,hlt b o hM,h6⟩)
 . rcases Nat.lt_or_ge b w.heap.size with h5|h5
   . by_cases h6:H.hb s w b
     . exact .inl (hh b h6 o)
     . exact .inl (hG2.2.1.down b o ⟨h5,h6⟩ hM).1
   . exact .inr ⟨h5,hG2.2.1.lt b o hM⟩
end Go.V
namespace Go.V
open Go.Proofs
open Go.RowKit (Below)
noncomputable def r52_6:Array Oper:=regAt 6 (bodyOf Tryz.f52)
theorem info52_6:r52_6.toList.map opInfo=[(some 19,.load 86 (.tmp 1),none),
 (some 20,.move (.tmp 6),none),
 (some 21,.call { callee:=.value (.func 49),args := #[.tmp 19,.tmp 20],argTypes := #[86,3] },none),
 (some 22,.move (.tmp 4),none),
 (some 23,.fieldAddr 55 (.tmp 7) 0,none),
 (some 24,.load 3 (.tmp 23),none),
 (some 25,.lookup 91 (.tmp 22) (.tmp 24) false,none),
 (some 26,.binOp .add 3 (.tmp 21) (.tmp 25) 3,none),
 (some 8,.assign (.tmp 26),none)]:=by kernel_rfl
noncomputable def E52_6 {ρ:Type} (k:X->H52.σ->St->Out ρ) (s:H52.σ) (st:St):Out ρ :=
 match get st 1,get st 4,get st 6,get st 7 with
 | .box cs,.d .raw v,.d (.int .i64) i,.box ds=>(match gath ACCT cs,gath LINT ds with
  | some (acc,[]),some (ln,[])=>(match f49 (acc,(i,())) with
   | .ret y=>bif isM s v ln.1 && (noBoxes [8,19,20,21,22,23,24,25,26] st && (st.length==48)) then k .normal s ((undAll [19,20,21,22,23,24,25,26] (st.map dropS)).set 8 (.d (.int .i64) (IntKind.i64.wrap (y+gM s ln.1)))) else .fail
   | _=>.fail)
  | _,_=>.fail)
 | _,_,_,_=>.fail
theorem cellsOK_of {M:Mut} {w:World}:∀ (us:List Value) (cs:List C),us.length=cs.length->(∀ (k:Nat) c u,cs[k]? = some c->us[k]? = some u->CellOK M w u c)->CellsOK M w us cs
 | [],[],_,_=>trivial
 | u :: us,c :: cs,hl,h=>⟨h 0 c u rfl rfl,cellsOK_of us cs (by simpa using hl) fun k c' u' h1 h2=>h (k+1) c' u' (by simpa using h1) (by simpa using h2)⟩
 | [],_ :: _,hl,_=>by simp at hl
 | _ :: _,[],hl,_=>by simp at hl
theorem box_gath {M:Mut} {w:World} {st:St} {a:Act} {u:Value} {cs:List C} {t:Ty} {x:t.den} (h:SlotOK M w st a u (.box cs)) (hg:gath t cs=some (x,[])):∃ b T cells,u = .pointer (some ⟨b,0,none⟩)/\w.heap[b]? = some (.cells cells T (0,0))/\RepC M w t cells.toList x:=by
 obtain ⟨b,T,cells,e1,e2,e3,_,e5⟩:=h
 have hC:CellsOK M w cells.toList cs:=cellsOK_of _ _ (by rw [Array.length_toList];exact e3) fun k c u h1 h2=>e5 k c u h1 (by simpa using h2)
 obtain ⟨c1,us',h1,h2,h3⟩:=gath_ok t _ _ _ _ hC hg
 have h3:us'=[]:=by
  cases us' with
  | nil=>rfl
  | cons _ _=>cases h3
 subst h3
 rw [List.append_nil] at h1
 rw [<- h1] at h2
 exact ⟨b,T,cells,e1,e2,h2⟩
theorem eight_cells {cells:Array Value} (h:cells.toList.length=8):∃ x0 x1 x2 x3 x4 x5 x6 x7,cells = #[x0,x1,x2,x3,x4,x5,x6,x7]:=by
 obtain ⟨l⟩:=cells
 match l,h with
 | [x0,x1,x2,x3,x4,x5,x6,x7],_=>exact ⟨x0,x1,x2,x3,x4,x5,x6,x7,rfl⟩
section
variable {a : Act} {w : World} {o : Oper}
theorem ex_field55h {p:Nat} (ho:o.op = .fieldAddr 55 (.tmp p) 0) {b j:Nat} (h:tm a p = .pointer (some ⟨b,j,none⟩)):(execOp a.eval o).run Tryz.prog w = .ok (.value (.pointer (some ⟨b,j+0,none⟩))) w:=by
 have e:a.eval (.tmp p) = .pointer (some ⟨b,j,none⟩):=h
 simp only [execOp,ho,e]
 simp [go_sem,add_lit]
theorem ex_call49 {p q:Nat} {T:Array Nat} (ho:o.op = .call { callee:=.value (.func 49),args := #[.tmp p,.tmp q],argTypes:=T }) {u v:Value} (h0:tm a p=u) (h1:tm a q=v):(execOp a.eval o).run Tryz.prog w = .ok (.enter 49 #[u,v]) w:=by
 have e0:a.eval (.tmp p)=u:=h0
 have e1:a.eval (.tmp q)=v:=h1
 have e2:a.eval (.func 49) = .func (.func 49) #[] #[]:=rfl
 have e3:=fun args=>enters_run (P:=Tryz.prog) (g:=49) (by kernel_rfl) args w
 simp [execOp,ho,resolve,e0,e1,e2,Deferred.ofValue,invoke,e3]
end
theorem E52_6_ok:EOKH Tryz.prog H52 (.region 6 r52_6 true) (fun {ρ} k s st=>E52_6 k s st):=by
 intro ρ fin hf hr F M0 w0 n hI hpl k Q hQ s st a w hc h
 have h:E52_6 k s st=fin:=h
 unfold E52_6 at h
 split at h
 rotate_left
 . exact absurd h.symm hf
 rename_i cs v i ds e1 e4 e6 e7
 split at h
 rotate_left
 . exact absurd h.symm hf
 rename_i acc ln g1 g2
 split at h
 rotate_left
 . exact absurd h.symm hf
 rename_i y hy
 cases hb:(isM s v ln.1 && (noBoxes [8,19,20,21,22,23,24,25,26] st && (st.length==48))) with
 | false=>rw [hb] at h;exact absurd h.symm hf
 | true =>
 rw [hb] at h
 rw [Bool.and_eq_true,Bool.and_eq_true,beq_iff_eq] at hb
 obtain ⟨hm1,hnb,hl48⟩:=hb
 obtain ⟨q,hq,hv,hrg⟩:=isM_some hm1
 have t4:=rawG hc e4
 have t6:=intG hc e6
 obtain ⟨hfr,M,hG⟩:=id hc
 have hsize:=hG.2.1.size
 have s1:=hG.2.1.slot 1
 rw [e1] at s1
 have s7:=hG.2.1.slot 7
 rw [e7] at s7
 obtain ⟨b1,T1,cells1,t1,hh1,hr1⟩:=box_gath s1 g1
 obtain ⟨b7,T7,cells7,t7,hh7,hr7⟩:=box_gath s7 g2
 obtain ⟨x0,x1,x2,x3,x4,x5,x6,x7,rfl⟩:=eight_cells (RepC.length _ _ _ hr1)
 obtain ⟨m,hqm,hmap⟩:=hG.1 q hq
 rw [hv,hqm] at t4
 have hgk:gM s ln.1=(q.2.1 ln.1).getD 0:=by rw [show s=(some q:S52) from hq];rfl
 have hd0:∃ d7,cells7.toList = .int .i64 ln.1 :: d7:=by
  obtain ⟨c1,d1,e,h1,_⟩:=hr7
  have h1:c1=[.int .i64 ln.1]:=h1
  subst h1
  exact ⟨d1,e⟩
 obtain ⟨d7,hd7⟩:=hd0
 have hc70:cells7[0]? = some (.int .i64 ln.1):=by rw [<- Array.getElem?_toList,hd7];rfl
 have sz:∀ {j},j∈[8,19,20,21,22,23,24,25,26]->isBox (get st j)=false:=fun {j} hj=>by
  have:=List.all_eq_true.1 hnb j hj
  simpa using this
 have hlt26:26<a.tmps.size:=by
  rw [hsize,hl48];omega
 obtain ⟨S,hS⟩:∃ S:World->Prop,S=fun w'=>Below w.heap.size w w':=⟨_,rfl⟩
 have hb0:Below w.heap.size w w.drew:=⟨rfl,rfl,rfl,Nat.le_refl _,fun _ _=>rfl⟩
 have S0:S w.drew:=by rw [hS];exact hb0
 have nQ:∀ c a w,¬ calmQ Q (.panic c) a w:=fun c a w h=>h
 have ns:Region.noSelect r52_6=true:=by kernel_rfl
 have k1:∀ w',S w'->w'.heap[b1]? = some (.cells #[x0,x1,x2,x3,x4,x5,x6,x7] T1 (0,0)):=fun w' h=>by rw [hS] at h;exact (h.block b1 (Array.getElem?_eq_some_iff.1 hh1).1).trans hh1
 have k7:∀ w',S w'->w'.heap[b7]? = some (.cells cells7 T7 (0,0)):=fun w' h=>by rw [hS] at h;exact (h.block b7 (Array.getElem?_eq_some_iff.1 hh7).1).trans hh7
 have km:∀ w',S w'->MapI q.2.1 q.2.2 m w':=fun w' h=>by
  rw [hS] at h
  obtain ⟨es,c,e⟩:=hmap.block
  exact hmap.keep (h.block m (Array.getElem?_eq_some_iff.1 e).1)
 refine held_begin mixed S 8 ?_
 rw [show r52_6.size=9 by kernel_rfl]
 show wpAnyT Tryz.prog r52_6 (calmQ Q) S 8 9 (Array.replicate 9 false) a w.drew
 refine held_read (i:=0) (d:=19) (v:=.agg #[x0,x1,x2,x3,x4,x5,x6,x7]) (by rw [info52_6];rfl) ns (by kernel_rfl) (by kernel_rfl) (by kernel_rfl) nQ (fun o ho w' hw'=>ex_load86 ho t1 (k1 w' hw')) S0 ?_
 obtain ⟨a1,ha1⟩:∃ zz:Act,zz=Act.put a (some 19) (.agg #[x0,x1,x2,x3,x4,x5,x6,x7]):=⟨_,rfl⟩
 rw [<- ha1]
 have z1:26<a1.tmps.size:=by rw [ha1,size_put];exact hlt26
 have u1_1:tm a1 1 = .pointer (some ⟨b1,0,none⟩):=by rw [ha1,tm_put_other (by omega)];exact t1
 have u1_4:tm a1 4 = .map (some m):=by rw [ha1,tm_put_other (by omega)];exact t4
 have u1_6:tm a1 6 = .int .i64 i:=by rw [ha1,tm_put_other (by omega)];exact t6
 have u1_7:tm a1 7 = .pointer (some ⟨b7,0,none⟩):=by rw [ha1,tm_put_other (by omega)];exact t7
 have u1_19:tm a1 19 = .agg #[x0,x1,x2,x3,x4,x5,x6,x7]:=by rw [ha1];exact tm_put_same (by have:=hlt26;omega)
 refine held_read (i:=1) (d:=20) (v:=.int .i64 i) (by rw [info52_6];rfl) ns (by kernel_rfl) (by kernel_rfl) (by kernel_rfl) nQ (fun o ho w' hw'=>by rw [ex_move ho,u1_6]) S0 ?_
 obtain ⟨a2,ha2⟩:∃ zz:Act,zz=Act.put a1 (some 20) (.int .i64 i):=⟨_,rfl⟩
 rw [<- ha2]
 have z2:26<a2.tmps.size:=by rw [ha2,size_put];exact z1
 have u2_1:tm a2 1 = .pointer (some ⟨b1,0,none⟩):=by rw [ha2,tm_put_other (by omega)];exact u1_1
 have u2_4:tm a2 4 = .map (some m):=by rw [ha2,tm_put_other (by omega)];exact u1_4
 have u2_6:tm a2 6 = .int .i64 i:=by rw [ha2,tm_put_other (by omega)];exact u1_6
 have u2_7:tm a2 7 = .pointer (some ⟨b7,0,none⟩):=by rw [ha2,tm_put_other (by omega)];exact u1_7
 have u2_19:tm a2 19 = .agg #[x0,x1,x2,x3,x4,x5,x6,x7]:=by rw [ha2,tm_put_other (by omega)];exact u1_19
 have u2_20:tm a2 20 = .int .i64 i:=by rw [ha2];exact tm_put_same (by have:=z1;omega)
 refine held_read (i:=3) (d:=22) (v:=.map (some m)) (by rw [info52_6];rfl) ns (by kernel_rfl) (by kernel_rfl) (by kernel_rfl) nQ (fun o ho w' hw'=>by rw [ex_move ho,u2_4]) S0 ?_
 obtain ⟨a3,ha3⟩:∃ zz:Act,zz=Act.put a2 (some 22) (.map (some m)):=⟨_,rfl⟩
 rw [<- ha3]
 have z3:26<a3.tmps.size:=by rw [ha3,size_put];exact z2
 have u3_1:tm a3 1 = .pointer (some ⟨b1,0,none⟩):=by rw [ha3,tm_put_other (by omega)];exact u2_1
 have u3_4:tm a3 4 = .map (some m):=by rw [ha3,tm_put_other (by omega)];exact u2_4
 have u3_6:tm a3 6 = .int .i64 i:=by rw [ha3,tm_put_other (by omega)];exact u2_6
 have u3_7:tm a3 7 = .pointer (some ⟨b7,0,none⟩):=by rw [ha3,tm_put_other (by omega)];exact u2_7
 have u3_19:tm a3 19 = .agg #[x0,x1,x2,x3,x4,x5,x6,x7]:=by rw [ha3,tm_put_other (by omega)];exact u2_19
 have u3_20:tm a3 20 = .int .i64 i:=by rw [ha3,tm_put_other (by omega)];exact u2_20
 have u3_22:tm a3 22 = .map (some m):=by rw [ha3];exact tm_put_same (by have:=z2;omega)
 refine held_read (i:=4) (d:=23) (v:=.pointer (some ⟨b7,0+0,none⟩)) (by rw [info52_6];rfl) ns (by kernel_rfl) (by kernel_rfl) (by kernel_rfl) nQ (fun o ho w' hw'=>ex_field55h ho u3_7) S0 ?_
 obtain ⟨a4,ha4⟩:∃ zz:Act,zz=Act.put a3 (some 23) (.pointer (some ⟨b7,0+0,none⟩)):=⟨_,rfl⟩
 rw [<- ha4]
 have z4:26<a4.tmps.size:=by rw [ha4,size_put];exact z3
 have u4_1:tm a4 1 = .pointer (some ⟨b1,0,none⟩):=by rw [ha4,tm_put_other (by omega)];exact u3_1
 have u4_4:tm a4 4 = .map (some m):=by rw [ha4,tm_put_other (by omega)];exact u3_4
 have u4_6:tm a4 6 = .int .i64 i:=by rw [ha4,tm_put_other (by omega)];exact u3_6
 have u4_7:tm a4 7 = .pointer (some ⟨b7,0,none⟩):=by rw [ha4,tm_put_other (by omega)];exact u3_7
 have u4_19:tm a4 19 = .agg #[x0,x1,x2,x3,x4,x5,x6,x7]:=by rw [ha4,tm_put_other (by omega)];exact u3_19
 have u4_20:tm a4 20 = .int .i64 i:=by rw [ha4,tm_put_other (by omega)];exact u3_20
 have u4_22:tm a4 22 = .map (some m):=by rw [ha4,tm_put_other (by omega)];exact u3_22
 have u4_23:tm a4 23 = .pointer (some ⟨b7,0+0,none⟩):=by rw [ha4];exact tm_put_same (by have:=z3;omega)
 refine held_read (i:=5) (d:=24) (v:=.int .i64 ln.1) (by rw [info52_6];rfl) ns (by kernel_rfl) (by kernel_rfl) (by kernel_rfl) nQ (fun o ho w' hw'=>ex_loadAt (T:=3) (t:=.int .i64) (by kernel_rfl) rfl rfl ho (b:=b7) (j:=0+0) u4_23 (k7 w' hw') hc70) S0 ?_
 obtain ⟨a5,ha5⟩:∃ zz:Act,zz=Act.put a4 (some 24) (.int .i64 ln.1):=⟨_,rfl⟩
 rw [<- ha5]
 have z5:26<a5.tmps.size:=by rw [ha5,size_put];exact z4
 have u5_1:tm a5 1 = .pointer (some ⟨b1,0,none⟩):=by rw [ha5,tm_put_other (by omega)];exact u4_1
 have u5_4:tm a5 4 = .map (some m):=by rw [ha5,tm_put_other (by omega)];exact u4_4
 have u5_6:tm a5 6 = .int .i64 i:=by rw [ha5,tm_put_other (by omega)];exact u4_6
 have u5_7:tm a5 7 = .pointer (some ⟨b7,0,none⟩):=by rw [ha5,tm_put_other (by omega)];exact u4_7
 have u5_19:tm a5 19 = .agg #[x0,x1,x2,x3,x4,x5,x6,x7]:=by rw [ha5,tm_put_other (by omega)];exact u4_19
 have u5_20:tm a5 20 = .int .i64 i:=by rw [ha5,tm_put_other (by omega)];exact u4_20
 have u5_22:tm a5 22 = .map (some m):=by rw [ha5,tm_put_other (by omega)];exact u4_22
 have u5_23:tm a5 23 = .pointer (some ⟨b7,0+0,none⟩):=by rw [ha5,tm_put_other (by omega)];exact u4_23
 have u5_24:tm a5 24 = .int .i64 ln.1:=by rw [ha5];exact tm_put_same (by have:=z4;omega)
 refine held_read (i:=6) (d:=25) (v:=.int .i64 ((q.2.1 ln.1).getD 0)) (by rw [info52_6];rfl) ns (by kernel_rfl) (by kernel_rfl) (by kernel_rfl) nQ (fun o ho w' hw'=>ex_look ho u5_22 u5_24 ((km w' hw').look hrg)) S0 ?_
 obtain ⟨a6,ha6⟩:∃ zz:Act,zz=Act.put a5 (some 25) (.int .i64 ((q.2.1 ln.1).getD 0)):=⟨_,rfl⟩
 rw [<- ha6]
 have z6:26<a6.tmps.size:=by rw [ha6,size_put];exact z5
 have u6_1:tm a6 1 = .pointer (some ⟨b1,0,none⟩):=by rw [ha6,tm_put_other (by omega)];exact u5_1
 have u6_4:tm a6 4 = .map (some m):=by rw [ha6,tm_put_other (by omega)];exact u5_4
 have u6_6:tm a6 6 = .int .i64 i:=by rw [ha6,tm_put_other (by omega)];exact u5_6
 have u6_7:tm a6 7 = .pointer (some ⟨b7,0,none⟩):=by rw [ha6,tm_put_other (by omega)];exact u5_7
 have u6_19:tm a6 19 = .agg #[x0,x1,x2,x3,x4,x5,x6,x7]:=by rw [ha6,tm_put_other (by omega)];exact u5_19
 have u6_20:tm a6 20 = .int .i64 i:=by rw [ha6,tm_put_other (by omega)];exact u5_20
 have u6_22:tm a6 22 = .map (some m):=by rw [ha6,tm_put_other (by omega)];exact u5_22
 have u6_23:tm a6 23 = .pointer (some ⟨b7,0+0,none⟩):=by rw [ha6,tm_put_other (by omega)];exact u5_23
 have u6_24:tm a6 24 = .int .i64 ln.1:=by rw [ha6,tm_put_other (by omega)];exact u5_24
 have u6_25:tm a6 25 = .int .i64 ((q.2.1 ln.1).getD 0):=by rw [ha6];exact tm_put_same (by have:=z5;omega)
 have hu:RepV M w ACCT (.agg #[x0,x1,x2,x3,x4,x5,x6,x7]) acc:=⟨[x0,x1,x2,x3,x4,x5,x6,x7],rfl,hr1⟩
 have hcall:=owed_calls (hI _ (hfr.trans (Fr.below hb0 hG.2.1.room))) (RepV.mono (stable_below hb0) hu) hG.2.1.lt hy
 refine held_enter (i:=2) (by rw [info52_6];rfl) (by kernel_rfl) (fun o ho=>ex_call49 ho u6_19 u6_20) (hcall.mono ?_)
 rintro e w1 ⟨rfl,hb1⟩
 have hbw:Below w.heap.size w w1:=hb0.trans hb1
 refine ⟨_,rfl,fun _=>by rw [hS];exact hbw,?_⟩
 obtain ⟨a7,ha7⟩:∃ zz:Act,zz=Act.put a6 (some 21) (.int .i64 y):=⟨_,rfl⟩
 rw [<- ha7]
 have z7:26<a7.tmps.size:=by rw [ha7,size_put];exact z6
 have u7_1:tm a7 1 = .pointer (some ⟨b1,0,none⟩):=by rw [ha7,tm_put_other (by omega)];exact u6_1
 have u7_4:tm a7 4 = .map (some m):=by rw [ha7,tm_put_other (by omega)];exact u6_4
 have u7_6:tm a7 6 = .int .i64 i:=by rw [ha7,tm_put_other (by omega)];exact u6_6
 have u7_7:tm a7 7 = .pointer (some ⟨b7,0,none⟩):=by rw [ha7,tm_put_other (by omega)];exact u6_7
 have u7_19:tm a7 19 = .agg #[x0,x1,x2,x3,x4,x5,x6,x7]:=by rw [ha7,tm_put_other (by omega)];exact u6_19
 have u7_20:tm a7 20 = .int .i64 i:=by rw [ha7,tm_put_other (by omega)];exact u6_20
 have u7_22:tm a7 22 = .map (some m):=by rw [ha7,tm_put_other (by omega)];exact u6_22
 have u7_23:tm a7 23 = .pointer (some ⟨b7,0+0,none⟩):=by rw [ha7,tm_put_other (by omega)];exact u6_23
 have u7_24:tm a7 24 = .int .i64 ln.1:=by rw [ha7,tm_put_other (by omega)];exact u6_24
 have u7_25:tm a7 25 = .int .i64 ((q.2.1 ln.1).getD 0):=by rw [ha7,tm_put_other (by omega)];exact u6_25
 have u7_21:tm a7 21 = .int .i64 y:=by rw [ha7];exact tm_put_same (by have:=z6;omega)
 refine held_step (i:=7) (by rw [info52_6];rfl) (by kernel_rfl) (fun o ho=>ex_addI ho u7_21 u7_25) (.inl rfl) (fun _=>by rw [hS];exact hbw) ?_
 obtain ⟨a8,ha8⟩:∃ zz:Act,zz=Act.put a7 (some 26) (.int .i64 (IntKind.i64.wrap (y+(q.2.1 ln.1).getD 0))):=⟨_,rfl⟩
 rw [<- ha8]
 have z8:26<a8.tmps.size:=by rw [ha8,size_put];exact z7
 have u8_1:tm a8 1 = .pointer (some ⟨b1,0,none⟩):=by rw [ha8,tm_put_other (by omega)];exact u7_1
 have u8_4:tm a8 4 = .map (some m):=by rw [ha8,tm_put_other (by omega)];exact u7_4
 have u8_6:tm a8 6 = .int .i64 i:=by rw [ha8,tm_put_other (by omega)];exact u7_6
 have u8_7:tm a8 7 = .pointer (some ⟨b7,0,none⟩):=by rw [ha8,tm_put_other (by omega)];exact u7_7
 have u8_19:tm a8 19 = .agg #[x0,x1,x2,x3,x4,x5,x6,x7]:=by rw [ha8,tm_put_other (by omega)];exact u7_19
 have u8_20:tm a8 20 = .int .i64 i:=by rw [ha8,tm_put_other (by omega)];exact u7_20
 have u8_22:tm a8 22 = .map (some m):=by rw [ha8,tm_put_other (by omega)];exact u7_22
 have u8_23:tm a8 23 = .pointer (some ⟨b7,0+0,none⟩):=by rw [ha8,tm_put_other (by omega)];exact u7_23
 have u8_24:tm a8 24 = .int .i64 ln.1:=by rw [ha8,tm_put_other (by omega)];exact u7_24
 have u8_25:tm a8 25 = .int .i64 ((q.2.1 ln.1).getD 0):=by rw [ha8,tm_put_other (by omega)];exact u7_25
 have u8_21:tm a8 21 = .int .i64 y:=by rw [ha8,tm_put_other (by omega)];exact u7_21
 have u8_26:tm a8 26 = .int .i64 (IntKind.i64.wrap (y+(q.2.1 ln.1).getD 0)):=by rw [ha8];exact tm_put_same (by have:=z7;omega)
 refine held_step (i:=8) (by rw [info52_6];rfl) (by kernel_rfl) (fun o ho=>by rw [ex_assign ho,u8_26]) (.inl rfl) (fun h=>absurd rfl h) ?_
 refine held_done (by kernel_rfl) ?_ _
 refine hQ .normal s _ _ _ ?_ h
 obtain ⟨f1,hG1⟩:=below52 hG hbw
 have hl:((undAll [19,20,21,22,23,24,25,26] (st.map dropS))).length=st.length:=by rw [undAll_len,List.length_map]
 have hU:∀ j,j∈[19,20,21,22,23,24,25,26]->get (undAll [19,20,21,22,23,24,25,26] (st.map dropS)) j = .und:=fun j hj=>by
  rcases undAll_get [19,20,21,22,23,24,25,26] (st.map dropS) j with ⟨_,e⟩|⟨h,_⟩
  . exact e
  . exact absurd hj h
 have hG2:GoodH H52 F M0 s M (undAll [19,20,21,22,23,24,25,26] (st.map dropS)) a w1:=hG1.unfocus (Fr.refl _ _) (hG1.focus.mask hl (fun j=>by
  rcases undAll_get [19,20,21,22,23,24,25,26] (st.map dropS) j with ⟨_,e⟩|⟨_,e⟩
  . exact .inl e
  . exact .inr (.inl (e.trans (get_drop st j)))) fun j v hj=>(hpl j v hj).elim)
 have g1:=good_free hG2 (hU 19 (by simp)) (.agg #[x0,x1,x2,x3,x4,x5,x6,x7])
 have g2:=good_free g1 (hU 20 (by simp)) (.int .i64 i)
 have g3:=good_free g2 (hU 22 (by simp)) (.map (some m))
 have g4:=good_free g3 (hU 23 (by simp)) (.pointer (some ⟨b7,0+0,none⟩))
 have g5:=good_free g4 (hU 24 (by simp)) (.int .i64 ln.1)
 have g6:=good_free g5 (hU 25 (by simp)) (.int .i64 ((q.2.1 ln.1).getD 0))
 have g7:=good_free g6 (hU 21 (by simp)) (.int .i64 y)
 have g8:=good_free g7 (hU 26 (by simp)) (.int .i64 (IntKind.i64.wrap (y+(q.2.1 ln.1).getD 0)))
 have h8:isBox (get (undAll [19,20,21,22,23,24,25,26] (st.map dropS)) 8)=false:=by
  rcases undAll_get [19,20,21,22,23,24,25,26] (st.map dropS) 8 with ⟨_,e⟩|⟨_,e⟩
  . rw [e];rfl
  . rw [e,get_drop,isBox_drop];exact sz (by simp)
 have ge:=good_put g8 (d:=8) h8 (x:=.d (.int .i64) (IntKind.i64.wrap (y+gM s ln.1))) rfl (v:=.int .i64 (IntKind.i64.wrap (y+(q.2.1 ln.1).getD 0))) ⟨[.int .i64 (IntKind.i64.wrap (y+(q.2.1 ln.1).getD 0))],rfl,by rw [hgk];rfl⟩
 rw [ha8,ha7,ha6,ha5,ha4,ha3,ha2,ha1]
 exact ⟨hfr.trans f1,M,ge⟩
end Go.V
namespace Go.V
open Go.Proofs
open Go.RowKit (Below)
noncomputable def vloopK {ρ:Type} (P:Program) (H:Hole) (Φ:Nat->List Spec) (hints:List (Nat×List Nat)) (N:Nat) (k:X->H.σ->St->Out ρ) (T:List (List Nat×HdH H)) (f:Func) (path:List Nat) (n:Nat) (s:H.σ) (st:St):Out ρ :=
 walkQ P H Φ hints N (fun c T k=>match c with
  | .loop b=>iterQ (fun k' s st=>vhq P H Φ hints N b (subL 0 T) k' s st) (maskOf hints b) k n s st
  | _=>.fail) path (bodyOf f) T k
noncomputable def vfnK {ρ:Type} (P:Program) (H:Hole) (Φ:Nat->List Spec) (hints:List (Nat×List Nat)) (N:Nat) (k:X->H.σ->St->Out ρ) (T:List (List Nat×HdH H)) (f:Func) (a:Ty) (s:H.σ) (x:a.den):Out ρ :=
 vhq P H Φ hints N (bodyOf f) T k s (st0 f.ntmps a x)
noncomputable def endM (s:S52) (xs:List Int) (v:Value):Out (List Int×GI×Nat):=match s with
 | some q=>bif isV v q.1 then .ret (xs,q.2) else .fail
 | none=>.fail
abbrev RES52:Ty:=.prod (.list (.int .i64)) (.prod .raw .unit)
noncomputable def k52:X->H52.σ->St->Out (List Int×GI×Nat):=fun e s st=>match e with
 | .normal=>(match vres Tryz.prog Tryz.f52.results.toList true false RES52 st with | .ret r=>endM s r.1 r.2.1|_=>.fail)
 | .ret=>(match vres Tryz.prog Tryz.f52.results.toList true false RES52 st with | .ret r=>endM s r.1 r.2.1|_=>.fail)
 | _=>.fail
noncomputable def specs52:List Spec:=[]
def hints52:List (Nat×List Nat):=[(4,[1,4,5,12,13,14])]
noncomputable def specsQ52 (s:S52):List Spec:=[]
noncomputable def D52_1:Nat->Option (Nat×(S52->St->Bool×Outs H52)):=fun i=>match i with|0=>some (0,mkM)|_=>none
theorem D52_1_ok:∀ i y,D52_1 i=some y->HandQ Tryz.prog H52 r52_1 i y.1 y.2:=by
 intro i y h
 unfold D52_1 at h
 split at h
 . cases h;exact mkM_ok.one
 . cases h
noncomputable def D52_7:Option (S52->St->Bool×Outs H52):=some putM
theorem D52_7_ok:∀ g,D52_7=some g->HandOp Tryz.prog H52 r52_7 8 g:=fun g h=>by cases h;exact putM_ok
noncomputable def T52:List (List Nat×HdH H52):=[([1,0],⟨fun {ρ} k s st=>regQ Tryz.prog H52 (fun s=>phi (specsQ52 s)) hints52 D52_1 1 r52_1 k s st⟩),
 ([1,1,1,0,1,0,0,1,1,0,0,1,0],⟨fun {ρ} k s st=>E52_6 k s st⟩),
 ([1,1,1,0,1,0,0,1,1,0,0,1,1,0],⟨fun {ρ} k s st=>regAnyQ Tryz.prog H52 (fun s=>phi (specsQ52 s)) hints52 8 D52_7 7 r52_7 k s st⟩)]
theorem allQ52 (h:∀ s,∀ sp∈specsQ52 s,CallH Tryz.prog H52 s sp):AllQ Tryz.prog H52 (bodyOf Tryz.f52) (T52):=(allQ_cons (c' := .region 1 r52_1 false) (by kernel_rfl) (regQ_ok (fun s g sp hs=>h s sp (List.mem_filter.1 hs).1) hints52 D52_1_ok) (allQ_cons (c':=(.region 6 r52_6 true)) (by kernel_rfl) E52_6_ok (allQ_cons (c' := .region 7 r52_7 true) (by kernel_rfl) (regAnyQ_ok mixed (fun s g sp hs=>h s sp (List.mem_filter.1 hs).1) hints52 D52_7_ok) allQ_nil)))
noncomputable def L52_0 (N:Nat) (n_L52_0:Nat) (v_1:Value) (x:((J1×((List Int)×Unit))×Unit)) (a_2:Int) (a_3:Int) (a_4:Int) (a_5:Int) (a_6:Int) (a_7:Int) (a_8:(List (Int×(Int×((Int×(Int×Unit))×(Int×(Int×((Int×(Int×(Int×(Int×Unit))))×Unit)))))))) (a_9:(List Int)) (out_10:(List Int)) (t14_11:Int) (s_12:S52):Out (List Int×GI×Nat) :=
 vloopK Tryz.prog H52 (phi specs52) hints52 N k52 (T52) Tryz.f52 [1,1,1,0,1,0] n_L52_0 s_12 [.und,.box [.d (.int .i64) a_2,.d (.int .i64) a_3,.d (.int .i64) a_4,.d (.int .i64) a_5,.d (.int .i64) a_6,.d (.int .i64) a_7,.d (.list (.prod (.int .i64) (.prod (.int .i64) (.prod (.prod (.int .i64) (.prod (.int .i64) .unit)) (.prod (.int .i64) (.prod (.int .i64) (.prod (.prod (.int .i64) (.prod (.int .i64) (.prod (.int .i64) (.prod (.int .i64) .unit)))) .unit))))))) a_8,.d (.list (.int .i64)) a_9],.und,.und,.d .raw v_1,.own (.int .i64) out_10 false,.und,.und,.und,.und,.und,.und,.d (.list (.prod (.int .i64) (.prod (.int .i64) (.prod (.prod (.int .i64) (.prod (.int .i64) .unit)) (.prod (.int .i64) (.prod (.int .i64) (.prod (.prod (.int .i64) (.prod (.int .i64) (.prod (.int .i64) (.prod (.int .i64) .unit)))) .unit))))))) x.1.1.2.2.2.2.2.2.1,.d (.int .i64) (lenI x.1.1.2.2.2.2.2.2.1),.d (.int .i64) t14_11,.und,.und,.und,.und,.und,.und,.und,.und,.und,.und,.und,.und,.und,.und,.und,.und,.und,.und,.und,.und,.und,.und,.und,.und,.und,.und,.und,.und,.und,.und,.und,.und,.und]
theorem L52_0_succ (N:Nat) (n_L52_0:Nat) (v_1:Value) (x:((J1×((List Int)×Unit))×Unit)) (a_2:Int) (a_3:Int) (a_4:Int) (a_5:Int) (a_6:Int) (a_7:Int) (a_8:(List (Int×(Int×((Int×(Int×Unit))×(Int×(Int×((Int×(Int×(Int×(Int×Unit))))×Unit)))))))) (a_9:(List Int)) (out_10:(List Int)) (t14_11:Int) (s_12:S52):L52_0 N  (n_L52_0+1) v_1 x a_2 a_3 a_4 a_5 a_6 a_7 a_8 a_9 out_10 t14_11 s_12 =
 (
 match (decide (t14_11<(lenI x.1.1.2.2.2.2.2.2.1))) with
 | true =>
  bif (inb t14_11 x.1.1.2.2.2.2.2.2.1.length) then
   match f49 (((a_2,(a_3,(a_4,(a_5,(a_6,(a_7,(a_8,()))))))),(a_9,())),(t14_11,())) with
   | .ret r_13 =>
    bif (isM s_12 v_1 ((List.getD x.1.1.2.2.2.2.2.2.1 t14_11.toNat ((0:Int),((0:Int),(((0:Int),((0:Int),())),((0:Int),((0:Int),(((0:Int),((0:Int),((0:Int),((0:Int),())))),())))))))).1 && (true && true)) then
     bif (a_3 != (0:Int)) then
      bif (okM s_12 v_1 ((List.getD x.1.1.2.2.2.2.2.2.1 t14_11.toNat ((0:Int),((0:Int),(((0:Int),((0:Int),())),((0:Int),((0:Int),(((0:Int),((0:Int),((0:Int),((0:Int),())))),())))))))).1) then
       bif (a_3 != (0:Int)) then
        bif (fits out_10 ([(IntKind.i64.wrap (((IntKind.i64.wrap (r_13+gM s_12 ((List.getD x.1.1.2.2.2.2.2.2.1 t14_11.toNat ((0:Int),((0:Int),(((0:Int),((0:Int),())),((0:Int),((0:Int),(((0:Int),((0:Int),((0:Int),((0:Int),())))),())))))))).1))) - (((IntKind.i64.wrap (r_13+gM s_12 ((List.getD x.1.1.2.2.2.2.2.2.1 t14_11.toNat ((0:Int),((0:Int),(((0:Int),((0:Int),())),((0:Int),((0:Int),(((0:Int),((0:Int),((0:Int),((0:Int),())))),())))))))).1))).tmod a_3)))]:List Int)) then
         L52_0 N n_L52_0 v_1 x a_2 a_3 a_4 a_5 a_6 a_7 a_8 a_9 (out_10++([(IntKind.i64.wrap (((IntKind.i64.wrap (r_13+gM s_12 ((List.getD x.1.1.2.2.2.2.2.2.1 t14_11.toNat ((0:Int),((0:Int),(((0:Int),((0:Int),())),((0:Int),((0:Int),(((0:Int),((0:Int),((0:Int),((0:Int),())))),())))))))).1))) - (((IntKind.i64.wrap (r_13+gM s_12 ((List.getD x.1.1.2.2.2.2.2.2.1 t14_11.toNat ((0:Int),((0:Int),(((0:Int),((0:Int),())),((0:Int),((0:Int),(((0:Int),((0:Int),((0:Int),((0:Int),())))),())))))))).1))).tmod a_3)))]:List Int)) (IntKind.i64.wrap (t14_11+(1:Int))) ((uM s_12 ((List.getD x.1.1.2.2.2.2.2.2.1 t14_11.toNat ((0:Int),((0:Int),(((0:Int),((0:Int),())),((0:Int),((0:Int),(((0:Int),((0:Int),((0:Int),((0:Int),())))),())))))))).1 (((IntKind.i64.wrap (r_13+gM s_12 ((List.getD x.1.1.2.2.2.2.2.2.1 t14_11.toNat ((0:Int),((0:Int),(((0:Int),((0:Int),())),((0:Int),((0:Int),(((0:Int),((0:Int),((0:Int),((0:Int),())))),())))))))).1))).tmod a_3)))
        else .fail
       else .fail
      else .fail
     else .fail
    else .fail
   | _=>.fail
  else .fail
 | false =>
  endM s_12 out_10 v_1:Out (List Int×GI×Nat)):=by
 kernel_rfl
noncomputable def F52 (N:Nat) (x:((J1×((List Int)×Unit))×Unit)):Out (List Int×GI×Nat) :=
 allOf fun (v_1:Value) =>
  L52_0 N N v_1 x x.1.1.1 x.1.1.2.1 x.1.1.2.2.1 x.1.1.2.2.2.1 x.1.1.2.2.2.2.1 x.1.1.2.2.2.2.2.1 x.1.1.2.2.2.2.2.2.1 x.1.2.1 ([]:List Int) (0:Int) ((some (v_1,fun _=>none,0):S52))
theorem e52 (N:Nat) (x:((J1×((List Int)×Unit))×Unit)):vfnK Tryz.prog H52 (phi specs52) hints52 N k52 (T52) Tryz.f52 (.prod (.prod K0 (.prod (.list (.int .i64)) .unit)) .unit) (none:S52) x=F52 N x:=by
 kernel_rfl
end Go.V
namespace Go.V
open Go.Proofs
open Go.RowKit (Below)
theorem some52:Tryz.f52.body=some (bodyOf Tryz.f52):=by kernel_rfl
theorem endM_ret {s:S52} {xs ys:List Int} {v:Value} {q:GI×Nat} (h:endM s xs v = .ret (ys,q)):s=some (v,q)/\xs=ys:=by
 unfold endM at h
 split at h
 . rename_i p
   cases hb:isV v p.1 with
   | false=>rw [hb] at h;cases h
   | true =>
    rw [hb] at h
    have hb:=isV_eq hb
    cases h
    subst hb
    exact ⟨rfl,rfl⟩
 . cases h
theorem pays_calls {M:Mut} {w:World} {u:Value} {acc:ACC} {xs:List Int} {g:GI} {n:Nat} (hI:Inv.I Tryz.prog w) (hu:RepV M w ACCT u acc) (hlt:∀ b o,M b o->b<w.heap.size) (h:F52 fuel (acc,()) = .ret (xs,g,n)) :
 Calls Tryz.prog 52 #[u] w fun e w'=>∃ l m,e = .returned (.tuple #[l,.map (some m)])/\Below w.heap.size w w'/\w.heap.size<=m/\MapI g n m w' /\
  ∃ M',(∀ b o,M b o->M' b o)/\(∀ b o,M' b o->M b o\/(w.heap.size<=b/\b<w'.heap.size))/\(∀ o,M' m o)/\RepV M' w' (.list (.int .i64)) l xs:=by
 have hvs:RepT M w (.prod ACCT .unit) (#[u]:Array Value).toList (acc,()):=⟨u,[],rfl,hu,rfl⟩
 have hnh:∀ w b,¬ H52.hb (none:S52) w b:=fun w b ⟨q,e,_⟩=>by cases e
 have hst:=startH (H:=H52) (n:=48) (s:=(none:S52)) hvs hlt (fun q e=>by cases e) fun b hb=>absurd hb (hnh w b)
 have hbelow:∀ {w'},Fr (fun k=>k<w.heap.size/\¬ H52.hb (none:S52) w k) w w'->Below w.heap.size w w':=fun h=>⟨h.os,h.tape,h.output,h.size,fun k hk=>h.block k ⟨hk,hnh w k⟩⟩
 refine callsIn_wide.1 (callsIn_of_wp_marks (n:=0) Tryz.func52 some52 trivial (vhq_ok (phi_ok all_nil) mixed hints52 fuel (fin:=.ret (xs,g,n)) (by simp) (by simp) (bodyOf Tryz.f52) T52 (allQ52 fun s sp hs=>.inl (all_nil sp hs)) _ _ _ 0 (fun w' hw'=>Inv.below _ _ hI (hbelow hw')) (fun j v hj=>by cases hj) k52 _ ?_ (none:S52) _ _ _ hst ((e52 fuel (acc,())).trans h)))
 intro e s2 st a w' hc hk
 have key:(match vres Tryz.prog Tryz.f52.results.toList true false RES52 st with | .ret r=>endM s2 r.1 r.2.1|_=>.fail) = .ret (xs,g,n)->LeavesInM Fence.wide 0 Tryz.prog Tryz.f52 a.tmps (fun e w'=>∃ l m,e = .returned (.tuple #[l,.map (some m)])/\Below w.heap.size w w'/\w.heap.size<=m/\MapI g n m w' /\
  ∃ M',(∀ b o,M b o->M' b o)/\(∀ b o,M' b o->M b o\/(w.heap.size<=b/\b<w'.heap.size))/\(∀ o,M' m o)/\RepV M' w' (.list (.int .i64)) l xs) a.defers .returning w':=by
  intro hk
  split at hk
  rotate_left
  . cases hk
  rename_i r hv
  obtain ⟨h1,h2⟩:=endM_ret hk
  subst h1
  refine leave_hole (H:=H52) (s:=(none:S52)) (s':=(some (r.2.1,g,n):S52)) hlt (fun b hb=>absurd hb (hnh w b)) hc hv fun v w2 ⟨g1,g2,M',g3,g4,g5,g6,g7⟩=>?_
  obtain ⟨m,hm,hmap⟩:=g3 _ rfl
  have hm:r.2.1 = .map (some m):=hm
  have hhb:H52.hb (some (r.2.1,(g,n)):S52) w2 m:=⟨_,rfl,hm⟩
  obtain ⟨vs,e1,l,rest,e2,hl,v2,rest2,e3,⟨cs,e4,e5,_⟩,e6⟩:=g7
  have e6:rest2=[]:=e6
  subst e6 e3 e5
  have e4:v2=r.2.1:=e4
  subst e4
  rw [hm] at e2
  have hvt:v = .tuple #[l,.map (some m)]:=by rw [e1];congr 1;apply Array.ext';exact e2
  refine ⟨l,m,by rw [hvt],hbelow g1,(g2 m hhb).resolve_left (hnh w m),hmap,M',fun b o h=>(g4 b o h).resolve_left (hnh w b),g5,g6 m hhb,?_⟩
  rw [<- h2]
  exact hl
 cases e with
 | normal=>exact key hk
 | ret=>exact key hk
 | exit i=>cases hk
noncomputable def f52 (x:ACC×Unit):Out (List Int×Unit×Unit):=match F52 fuel x with
 | .ret y=>.ret (y.1,((),()))
 | _=>.fail
noncomputable def sp52:Spec:=⟨52,.call,.prod ACCT .unit,.prod (.list (.int .i64)) (.prod .opq .unit),true,false,f52⟩
theorem f52_pan (x:ACC×Unit) (p:Value):f52 x ≠ .pan p:=fun h=>by
 unfold f52 at h
 split at h<;>cases h
theorem c52:Contract Tryz.prog sp52:=contract_ret rfl f52_pan fun x M w vs r hr hI hvs hlt=>by
 obtain ⟨acc,⟨⟩⟩:=x
 obtain ⟨v,rest,e1,hv,e5⟩:=hvs
 have e5:rest=[]:=e5
 subst e5
 have hvs:vs = #[v]:=by apply Array.ext';rw [e1]
 subst hvs
 have hr:f52 (acc,()) = .ret r:=hr
 unfold f52 at hr
 split at hr
 rotate_left
 . cases hr
 rename_i y hy
 cases hr
 obtain ⟨xs,g,n⟩:=y
 refine (pays_calls hI hv hlt hy).mono ?_
 rintro e w' ⟨l,m,rfl,hb,_,_,M',h1,h2,_,hl⟩
 exact ⟨_,rfl,hb,M',h1,h2,⟨_,rfl,l,[.map (some m)],rfl,hl,.map (some m),[],rfl,⟨[_],rfl,_,rfl,rfl,rfl⟩,rfl⟩,fun b hb=>by cases hb⟩
end Go.V
namespace Go.V
open Go.Proofs
open Go.RowKit (Below)
noncomputable def okP (acc:ACC):Bool:=match F52 fuel (acc,()) with | .ret _=>true|_=>false
noncomputable def yP (acc:ACC):List Int×GI×Nat:=match F52 fuel (acc,()) with | .ret y=>y|_=>([],fun _=>none,0)
theorem okP_ret {acc:ACC} (h:okP acc=true):F52 fuel (acc,()) = .ret ((yP acc).1,(yP acc).2):=by
 unfold okP at h
 unfold yP
 split at h
 . rename_i y hy;rw [hy]
 . cases h
noncomputable def r22_3:Array Oper:=regAt 3 (bodyOf Tryz.f22)
theorem info22_3:(r22_3.toList.map opInfo)[3]? = some (some 31,.call { callee:=.value (.func 52),args := #[.tmp 30],argTypes := #[86] },none):=by kernel_rfl
noncomputable def r22_4:Array Oper:=regAt 4 (bodyOf Tryz.f22)
theorem info22_4:(r22_4.toList.map opInfo)[2]? = some (some 36,.lookup 91 (.tmp 34) (.tmp 35) false,none):=by kernel_rfl
theorem ex_call52 {a:Act} {w:World} {o:Oper} {p:Nat} {T:Array Nat} {v:Value} (ho:o.op = .call { callee:=.value (.func 52),args := #[.tmp p],argTypes:=T }) (h1:tm a p=v):(execOp a.eval o).run Tryz.prog w = .ok (.enter 52 #[v]) w:=by
 have e1:a.eval (.tmp p)=v:=h1
 have e4:a.eval (.func 52) = .func (.func 52) #[] #[]:=rfl
 have e3:=enters_run (P:=Tryz.prog) (g:=52) (by kernel_rfl) #[v] w
 simp [execOp,ho,resolve,e1,e4,Deferred.ofValue,invoke,e3]
noncomputable def pay22 (s:H52.σ) (st:St):Bool×Outs H52 :=
 match (get st 30).as ACCT with
 | some acc=>(!isBox (get st 31) && ((match (show S52 from s) with|none=>true|some _=>false) && okP acc),.each fun v=>((some (v,(yP acc).2):S52),st.set 31 (.tup RES52 ((yP acc).1,(v,())))))
 | none=>(false,.some [])
theorem pay22_ok:HandOp Tryz.prog H52 r22_3 3 pay22:=by
 intro F M0 w0 n hI hpl Q K s st a w hc h1 hK
 obtain ⟨o,hi,hd,ho,hg⟩:=infoAt rfl info22_3
 simp only at hd ho hg
 unfold pay22 at h1 hK
 split at h1
 rotate_left
 . cases h1
 rename_i acc hacc
 rw [hacc] at hK
 rw [Bool.and_eq_true,Bool.not_eq_true',Bool.and_eq_true] at h1
 obtain ⟨hnb,hs,hok⟩:=h1
 have hs:s=(none:S52):=by
  split at hs
  . rename_i e;exact e
  . cases hs
 subst hs
 obtain ⟨hf,M,hG⟩:=hc
 have hrep:RepV M w ACCT (tm a 30) acc:=as_ok (a:=a) (st:=st) (hG.2.1.slot 30) hacc
 refine opr_enter (ro:=none) hi (wanted_none hg) (fun c h=>by rw [ho] at h;cases h) (ex_call52 ho rfl) ((pays_calls (hI w hf) hrep hG.2.1.lt (okP_ret hok)).mono ?_)
 rintro e w' ⟨l,m,rfl,hb,hm,hmap,M',h2,h3,h4,hl⟩
 refine ⟨_,rfl,?_⟩
 rw [hd]
 refine hK ((some (.map (some m),(yP acc).2):S52),st.set 31 (.tup RES52 ((yP acc).1,(.map (some m),())))) ⟨_,rfl⟩ _ _ ?_
 have hbs:∀ b,H52.hb (some (.map (some m),(yP acc).2):S52) w' b->b=m:=fun b ⟨q,e1,e2⟩=>by cases e1;cases e2;rfl
 obtain ⟨f1,f2⟩:=hG.grow (s':=(some (.map (some m),(yP acc).2):S52)) (M':=M') (w':=w') ⟨hb.os,hb.tape,hb.output,hb.size,fun k hk=>hb.block k hk.1⟩
  (fun q e=>by cases e;exact ⟨_,rfl,hmap⟩) (fun b o h=>.inr (h2 b o h)) h3 (fun b h=>.inr (by rw [hbs b h];exact hm)) (fun b h o=>by rw [hbs b h];exact h4 o)
 exact ⟨hf.trans f1,_,good_put f2 hnb (x:=.tup RES52 ((yP acc).1,(.map (some m),()))) rfl (v:=.tuple #[l,.map (some m)]) ⟨_,rfl,l,[.map (some m)],rfl,hl,.map (some m),[],rfl,⟨[_],rfl,rfl,rfl,rfl⟩,rfl⟩⟩
noncomputable def look22 (s:H52.σ) (st:St):Bool×Outs H52 :=
 match get st 34,get st 35 with
 | .d .raw v,.d (.int .i64) k=>(isM s v k && !isBox (get st 36),.some [((none:S52),st.set 36 (.d (.int .i64) (gM s k)))])
 | _,_=>(false,.some [])
theorem look22_ok:HandOp Tryz.prog H52 r22_4 2 look22:=by
 intro F M0 w0 n hI hpl Q K s st a w hc h1 hK
 obtain ⟨o,hi,hd,ho,hg⟩:=infoAt rfl info22_4
 simp only at hd ho hg
 unfold look22 at h1 hK
 split at h1
 rotate_left
 . cases h1
 rename_i v k e34 e35
 rw [e34,e35] at hK
 rw [Bool.and_eq_true,Bool.not_eq_true'] at h1
 obtain ⟨hm1,hnb⟩:=h1
 obtain ⟨q,hq,hv,hr⟩:=isM_some hm1
 have t34:tm a 34=q.1:=(rawG hc e34).trans hv
 have t35:=intG hc e35
 obtain ⟨hf,M,hG⟩:=hc
 obtain ⟨m,hm,hmap⟩:=hG.1 q hq
 rw [hm] at t34
 refine opr_value (ro:=none) hi (wanted_none hg) (fun c h=>by rw [ho] at h;cases h) (ex_look ho t34 t35 (hmap.look hr)) ?_
 rw [hd]
 refine hK ((none:S52),st.set 36 (.d (.int .i64) (gM s k))) (.head _) _ _ ?_
 have e:gM s k=(q.2.1 k).getD 0:=by rw [show s=(some q:S52) from hq];rfl
 have hG0:GoodH H52 F M0 (none:S52) M st a w:=⟨fun q e=>(by cases e),hG.2.1,fun b ⟨q,e,_⟩=>(by cases e)⟩
 rw [e]
 exact ⟨hf,M,good_put hG0 hnb (x:=.d (.int .i64) ((q.2.1 k).getD 0)) rfl (v:=.int .i64 ((q.2.1 k).getD 0)) ⟨[_],rfl,rfl⟩⟩
noncomputable def specs22:List Spec:=[sp32,sp51,sp46]
def hints22:List (Nat×List Nat):=[]
noncomputable def specsQ22 (s:S52):List Spec:=[sp32,sp51,sp46]
noncomputable def D22_3:Nat->Option (Nat×(S52->St->Bool×Outs H52)):=fun i=>match i with|3=>some (0,pay22)|_=>none
theorem D22_3_ok:∀ i y,D22_3 i=some y->HandQ Tryz.prog H52 r22_3 i y.1 y.2:=by
 intro i y h
 unfold D22_3 at h
 split at h
 . cases h;exact pay22_ok.one
 . cases h
noncomputable def D22_4:Nat->Option (Nat×(S52->St->Bool×Outs H52)):=fun i=>match i with|2=>some (0,look22)|_=>none
theorem D22_4_ok:∀ i y,D22_4 i=some y->HandQ Tryz.prog H52 r22_4 i y.1 y.2:=by
 intro i y h
 unfold D22_4 at h
 split at h
 . cases h;exact look22_ok.one
 . cases h
noncomputable def T22:List (List Nat×HdH H52):=[([1,1,0],⟨fun {ρ} k s st=>regQ Tryz.prog H52 (fun s=>phi (specsQ22 s)) hints22 D22_3 3 r22_3 k s st⟩),
 ([1,1,1,0],⟨fun {ρ} k s st=>regQ Tryz.prog H52 (fun s=>phi (specsQ22 s)) hints22 D22_4 4 r22_4 k s st⟩)]
theorem allQ22 (h:∀ s,∀ sp∈specsQ22 s,CallH Tryz.prog H52 s sp):AllQ Tryz.prog H52 (bodyOf Tryz.f22) (T22):=(allQ_cons (c' := .region 3 r22_3 false) (by kernel_rfl) (regQ_ok (fun s g sp hs=>h s sp (List.mem_filter.1 hs).1) hints22 D22_3_ok) (allQ_cons (c' := .region 4 r22_4 false) (by kernel_rfl) (regQ_ok (fun s g sp hs=>h s sp (List.mem_filter.1 hs).1) hints22 D22_4_ok) allQ_nil))
noncomputable def F22 (N:Nat) (x:(J1×((List Int)×(Int×Unit)))):Out (S52×(Int×(Int×Unit))) :=
 match f32 (x.1,()) with
 | .ret r_1 =>
  match (!r_1) with
  | true =>
   .ret (((none:S52)),((0:Int),((2:Int),())))
  | false =>
   match f51 (x.1,(x.2.1,())) with
   | .ret r_3 =>
    match (!r_3) with
    | true =>
     .ret (((none:S52)),((0:Int),((2:Int),())))
    | false =>
     match f46 (x.2.2.1,((0:Int),((IntKind.i64.wrap (x.1.1 - (1:Int))),()))) with
     | .ret r_5 =>
      match (!r_5) with
      | true =>
       .ret (((none:S52)),((0:Int),((2:Int),())))
      | false =>
       bif ((true && (true && okP (x.1,(x.2.1,()))))) then
        allOf fun (v_7:Value) =>
         bif (isM ((some (v_7,(yP (x.1,(x.2.1,()))).2):S52)) v_7 x.2.2.1 && true) then
          .ret (((none:S52)),(((gM ((some (v_7,(yP (x.1,(x.2.1,()))).2):S52)) x.2.2.1)),((0:Int),())))
         else .fail
       else .fail
     | .pan p_6 =>
      .pan p_6
     | .fail=>.fail
   | .pan p_4 =>
    .pan p_4
   | .fail=>.fail
 | .pan p_2 =>
  .pan p_2
 | .fail=>.fail
theorem e22 (N:Nat) (x:(J1×((List Int)×(Int×Unit)))):vfnQ Tryz.prog H52 (phi specs22) hints22 N (T22) Tryz.f22 true false (.prod K0 (.prod (.list (.int .i64)) (.prod (.int .i64) .unit))) (.prod (.int .i64) (.prod (.int .i64) .unit)) ((none:S52)) x=F22 N x:=by
 kernel_rfl
noncomputable def f22 (x:(J1×((List Int)×(Int×Unit)))):Out (Int×(Int×Unit)):=dropG (F22 fuel x)
noncomputable def sp22:Spec:=⟨22,.call,(.prod K0 (.prod (.list (.int .i64)) (.prod (.int .i64) .unit))),(.prod (.int .i64) (.prod (.int .i64) .unit)),true,false,f22⟩
theorem c22:Contract Tryz.prog sp22:=contract_drop (H:=H52) (none:S52) (fun w b ⟨q,e,_⟩=>by cases e) (fun M w q e=>by cases e) (l:=specs22) (fun sp hs=>(by simp only [specs22,List.mem_cons,List.not_mem_nil,or_false] at hs;rcases hs with rfl|rfl|rfl<;>first|exact c32|exact c51|exact c46)) Tryz.func22 rfl (allQ22 fun s sp hs=>.inl (by simp only [specsQ22,List.mem_cons,List.not_mem_nil,or_false] at hs;rcases hs with rfl|rfl|rfl<;>first|exact c32|exact c51|exact c46)) hints22 fuel (e22 fuel)
end Go.V
namespace Go.V
open Go.Proofs
noncomputable def specs80a:List Spec:=[]
def hints80a:List (Nat×List Nat):=[(4000001,[1,24])]
noncomputable def F80a (N:Nat) (x:(J1×Unit)):Out (Unit×(J1×Unit)) :=
 .ret ((),(x.1,()))
theorem e80a (N:Nat) (x:(J1×Unit)):vfn Tryz.prog (phi specs80a) hints80a N Tryz.f80 false false (.prod K0 .unit) (.clo 105 .unit (.prod (.ptr K0) .unit)) x=F80a N x:=by
 kernel_rfl
noncomputable def f80a (x:(J1×Unit)):Out (Unit×(J1×Unit)):=F80a fuel x
noncomputable def sp80a:Spec:=⟨80,.call,(.prod K0 .unit),(.clo 105 .unit (.prod (.ptr K0) .unit)),false,false,f80a⟩
theorem c80a:Contract Tryz.prog sp80a:=contract_at (l:=specs80a) (arg:=(.prod K0 .unit)) (res:=(.clo 105 .unit (.prod (.ptr K0) .unit))) (multi:=false) (own:=false) (F:=f80a) mixed all_nil Tryz.func80 rfl hints80a fun x _=>⟨fuel,e80a fuel x⟩
noncomputable def specs48:List Spec:=[sp49]
def hints48:List (Nat×List Nat):=[]
noncomputable def F48 (N:Nat) (x:((J1×((List Int)×Unit))×(Int×Unit))):Out Int :=
 match f49 (x.1,(x.2.1,())) with
 | .ret r_1 =>
  .ret r_1
 | .pan p_2 =>
  .pan p_2
 | .fail=>.fail
theorem e48 (N:Nat) (x:((J1×((List Int)×Unit))×(Int×Unit))):vfn Tryz.prog (phi specs48) hints48 N Tryz.f48 false false (.prod (.prod K0 (.prod (.list (.int .i64)) .unit)) (.prod (.ptr (.int .i64)) .unit)) (.int .i64) x=F48 N x:=by
 kernel_rfl
noncomputable def f48 (x:((J1×((List Int)×Unit))×(Int×Unit))):Out Int:=F48 fuel x
noncomputable def sp48:Spec:=⟨48,.call,(.prod (.prod K0 (.prod (.list (.int .i64)) .unit)) (.prod (.ptr (.int .i64)) .unit)),(.int .i64),false,false,f48⟩
theorem c48:Contract Tryz.prog sp48:=contract_at (l:=specs48) (arg:=(.prod (.prod K0 (.prod (.list (.int .i64)) .unit)) (.prod (.ptr (.int .i64)) .unit))) (res:=(.int .i64)) (multi:=false) (own:=false) (F:=f48) mixed (all_cons c49 all_nil) Tryz.func48 rfl hints48 fun x _=>⟨fuel,e48 fuel x⟩
noncomputable def specs54:List Spec:=[sp52]
def hints54:List (Nat×List Nat):=[(4,[1,2,7,15,16,17])]
noncomputable def L54_0 (N:Nat) (n_L54_0:Nat) (x:((J1×((List Int)×Unit))×(Int×Unit))) (r_1:((List Int)×(Unit×Unit))) (n_3:Int) (t17_4:Int):Out Int :=
 vloop Tryz.prog (phi specs54) hints54 N Tryz.f54 false false (.int .i64) [.at 1,.at 1,.at 1,.at 0,.at 1,.at 0] n_L54_0 [.und,.d (.int .i64) x.2.1,.box [.d (.int .i64) x.1.1.1,.d (.int .i64) x.1.1.2.1,.d (.int .i64) x.1.1.2.2.1,.d (.int .i64) x.1.1.2.2.2.1,.d (.int .i64) x.1.1.2.2.2.2.1,.d (.int .i64) x.1.1.2.2.2.2.2.1,.d (.list (.prod (.int .i64) (.prod (.int .i64) (.prod (.prod (.int .i64) (.prod (.int .i64) .unit)) (.prod (.int .i64) (.prod (.int .i64) (.prod (.prod (.int .i64) (.prod (.int .i64) (.prod (.int .i64) (.prod (.int .i64) .unit)))) .unit))))))) x.1.1.2.2.2.2.2.2.1,.d (.list (.int .i64)) x.1.2.1],.und,.und,.und,.und,.d (.int .i64) n_3,.und,.und,.und,.und,.und,.und,.und,.d (.list (.int .i64)) r_1.1,.d (.int .i64) (lenI r_1.1),.d (.int .i64) t17_4,.und,.und,.und,.und,.und,.und,.und,.und,.und,.und,.und,.und,.und,.und,.und,.und,.und,.und]
theorem L54_0_succ (N:Nat) (n_L54_0:Nat) (x:((J1×((List Int)×Unit))×(Int×Unit))) (r_1:((List Int)×(Unit×Unit))) (n_3:Int) (t17_4:Int):L54_0 N  (n_L54_0+1) x r_1 n_3 t17_4 =
 (
 match (decide (t17_4<(lenI r_1.1))) with
 | true =>
  bif (inb t17_4 r_1.1.length) then
   bif (inb t17_4 x.1.1.2.2.2.2.2.2.1.length) then
    match (((List.getD x.1.1.2.2.2.2.2.2.1 t17_4.toNat ((0:Int),((0:Int),(((0:Int),((0:Int),())),((0:Int),((0:Int),(((0:Int),((0:Int),((0:Int),((0:Int),())))),())))))))).1==x.2.1) with
    | true =>
     L54_0 N n_L54_0 x r_1 (IntKind.i64.wrap (n_3+(List.getD r_1.1 t17_4.toNat (0:Int)))) (IntKind.i64.wrap (t17_4+(1:Int)))
    | false =>
     L54_0 N n_L54_0 x r_1 n_3 (IntKind.i64.wrap (t17_4+(1:Int)))
   else .fail
  else .fail
 | false =>
  .ret n_3:Out Int):=by
 kernel_rfl
noncomputable def F54 (N:Nat) (x:((J1×((List Int)×Unit))×(Int×Unit))):Out Int :=
 match f52 (x.1,()) with
 | .ret r_1 =>
  L54_0 N N x r_1 (0:Int) (0:Int)
 | .pan p_2 =>
  .pan p_2
 | .fail=>.fail
theorem e54 (N:Nat) (x:((J1×((List Int)×Unit))×(Int×Unit))):vfn Tryz.prog (phi specs54) hints54 N Tryz.f54 false false (.prod (.prod K0 (.prod (.list (.int .i64)) .unit)) (.prod (.int .i64) .unit)) (.int .i64) x=F54 N x:=by
 kernel_rfl
noncomputable def f54 (x:((J1×((List Int)×Unit))×(Int×Unit))):Out Int:=F54 fuel x
noncomputable def sp54:Spec:=⟨54,.call,(.prod (.prod K0 (.prod (.list (.int .i64)) .unit)) (.prod (.int .i64) .unit)),(.int .i64),false,false,f54⟩
theorem c54:Contract Tryz.prog sp54:=contract_at (l:=specs54) (arg:=(.prod (.prod K0 (.prod (.list (.int .i64)) .unit)) (.prod (.int .i64) .unit))) (res:=(.int .i64)) (multi:=false) (own:=false) (F:=f54) mixed (all_cons c52 all_nil) Tryz.func54 rfl hints54 fun x _=>⟨fuel,e54 fuel x⟩
noncomputable def specs53:List Spec:=[sp54]
def hints53:List (Nat×List Nat):=[]
noncomputable def F53 (N:Nat) (x:((J1×((List Int)×Unit))×(Int×Unit))):Out Int :=
 match f54 (x.1,(x.2.1,())) with
 | .ret r_1 =>
  .ret r_1
 | .pan p_2 =>
  .pan p_2
 | .fail=>.fail
theorem e53 (N:Nat) (x:((J1×((List Int)×Unit))×(Int×Unit))):vfn Tryz.prog (phi specs53) hints53 N Tryz.f53 false false (.prod (.prod K0 (.prod (.list (.int .i64)) .unit)) (.prod (.ptr (.int .i64)) .unit)) (.int .i64) x=F53 N x:=by
 kernel_rfl
noncomputable def f53 (x:((J1×((List Int)×Unit))×(Int×Unit))):Out Int:=F53 fuel x
noncomputable def sp53:Spec:=⟨53,.call,(.prod (.prod K0 (.prod (.list (.int .i64)) .unit)) (.prod (.ptr (.int .i64)) .unit)),(.int .i64),false,false,f53⟩
theorem c53:Contract Tryz.prog sp53:=contract_at (l:=specs53) (arg:=(.prod (.prod K0 (.prod (.list (.int .i64)) .unit)) (.prod (.ptr (.int .i64)) .unit))) (res:=(.int .i64)) (multi:=false) (own:=false) (F:=f53) mixed (all_cons c54 all_nil) Tryz.func53 rfl hints53 fun x _=>⟨fuel,e53 fuel x⟩
noncomputable def specs47a:List Spec:=[sp80a,sp105,sp50,sp48]
def hints47a:List (Nat×List Nat):=[]
noncomputable def R47a_0 (N:Nat) (ys_15:List (J1×((List Int)×Unit))) (x:(J1×((Unit×(Int×Unit))×(Value×Unit)))) (b_1:Int) (b_2:Int) (b_3:Int) (b_4:Int) (b_5:Int) (b_6:Int) (b_7:(List (Int×(Int×((Int×(Int×Unit))×(Int×(Int×((Int×(Int×(Int×(Int×Unit))))×Unit)))))))) (of_8:(Unit×(Int×Unit))) (t6_9:Int) (t6_10:Int) (out_11:Int) (out_12:Int) (met_13:Bool):Out ((Int×(Int×Unit))×(Int×Unit)) :=
 vrng Tryz.prog (phi specs47a) hints47a N Tryz.f47 true false (.prod (.prod (.int .i64) (.prod (.int .i64) .unit)) (.prod (.int .i64) .unit)) [.at 1,.at 1,.at 1,.at 0,.at 1,.at 0] (.prod K0 (.prod (.list (.int .i64)) .unit)) ys_15 [.d K0 x.1,.d (.clo 48 .unit (.prod (.ptr (.int .i64)) .unit)) x.2.1,.d .raw (Value.func (.func 50) #[] #[]),.box [.d (.int .i64) x.1.1,.d (.int .i64) x.1.2.1,.d (.int .i64) x.1.2.2.1,.d (.int .i64) x.1.2.2.2.1,.d (.int .i64) x.1.2.2.2.2.1,.d (.int .i64) x.1.2.2.2.2.2.1,.d (.list (.prod (.int .i64) (.prod (.int .i64) (.prod (.prod (.int .i64) (.prod (.int .i64) .unit)) (.prod (.int .i64) (.prod (.int .i64) (.prod (.prod (.int .i64) (.prod (.int .i64) (.prod (.int .i64) (.prod (.int .i64) .unit)))) .unit))))))) x.1.2.2.2.2.2.2.1],.box [.d (.clo 48 .unit (.prod (.ptr (.int .i64)) .unit)) x.2.1],.box [.d .raw (Value.func (.func 50) #[] #[])],.box [.d (.int .i64) (0:Int),.d (.int .i64) (0:Int)],.d (.int .i64) (0:Int),.box [.d (.int .i64) (0:Int),.d (.int .i64) (0:Int)],.box [.d .bool false],.und,.und,.d K0 x.1,.d (.clo 105 .unit (.prod (.ptr K0) .unit)) ((),(x.1,())),.und,.und,.und,.und,.und,.und,.und,.und,.und,.und,.und,.und,.und,.und,.und,.und,.und,.und,.und,.und,.und,.und,.und,.und,.und,.und] [.d K0 x.1,.d (.clo 48 .unit (.prod (.ptr (.int .i64)) .unit)) x.2.1,.d .raw (Value.func (.func 50) #[] #[]),.box [.d (.int .i64) b_1,.d (.int .i64) b_2,.d (.int .i64) b_3,.d (.int .i64) b_4,.d (.int .i64) b_5,.d (.int .i64) b_6,.d (.list (.prod (.int .i64) (.prod (.int .i64) (.prod (.prod (.int .i64) (.prod (.int .i64) .unit)) (.prod (.int .i64) (.prod (.int .i64) (.prod (.prod (.int .i64) (.prod (.int .i64) (.prod (.int .i64) (.prod (.int .i64) .unit)))) .unit))))))) b_7],.box [.d (.clo 48 .unit (.prod (.ptr (.int .i64)) .unit)) of_8],.box [.d .raw (Value.func (.func 50) #[] #[])],.box [.d (.int .i64) t6_9,.d (.int .i64) t6_10],.d (.int .i64) (0:Int),.box [.d (.int .i64) out_11,.d (.int .i64) out_12],.box [.d .bool met_13],.und,.und,.d K0 x.1,.d (.clo 105 .unit (.prod (.ptr K0) .unit)) ((),(x.1,())),.und,.und,.und,.und,.und,.und,.und,.und,.und,.und,.und,.und,.und,.und,.und,.und,.und,.und,.und,.und,.und,.und,.und,.und,.und,.und]
theorem R47a_0_nil (N:Nat) (x:(J1×((Unit×(Int×Unit))×(Value×Unit)))) (b_1:Int) (b_2:Int) (b_3:Int) (b_4:Int) (b_5:Int) (b_6:Int) (b_7:(List (Int×(Int×((Int×(Int×Unit))×(Int×(Int×((Int×(Int×(Int×(Int×Unit))))×Unit)))))))) (of_8:(Unit×(Int×Unit))) (t6_9:Int) (t6_10:Int) (out_11:Int) (out_12:Int) (met_13:Bool):R47a_0 N  [] x b_1 b_2 b_3 b_4 b_5 b_6 b_7 of_8 t6_9 t6_10 out_11 out_12 met_13 =
 (
 match (!met_13) with
 | true =>
  .ret (((0:Int),((0:Int),())),((5:Int),()))
 | false =>
  .ret ((out_11,(out_12,())),((0:Int),())):Out ((Int×(Int×Unit))×(Int×Unit))):=by
 kernel_rfl
theorem R47a_0_cons (N:Nat) (y_14:(J1×((List Int)×Unit))) (ys_15:List (J1×((List Int)×Unit))) (x:(J1×((Unit×(Int×Unit))×(Value×Unit)))) (b_1:Int) (b_2:Int) (b_3:Int) (b_4:Int) (b_5:Int) (b_6:Int) (b_7:(List (Int×(Int×((Int×(Int×Unit))×(Int×(Int×((Int×(Int×(Int×(Int×Unit))))×Unit)))))))) (of_8:(Unit×(Int×Unit))) (t6_9:Int) (t6_10:Int) (out_11:Int) (out_12:Int) (met_13:Bool):R47a_0 N  (y_14 :: ys_15) x b_1 b_2 b_3 b_4 b_5 b_6 b_7 of_8 t6_9 t6_10 out_11 out_12 met_13 =
 (
 match f48 (y_14,(of_8.2.1,())) with
 | .ret r_16 =>
  match (!met_13) with
  | true =>
   R47a_0 N ys_15 x b_1 b_2 b_3 b_4 b_5 b_6 b_7 of_8 t6_9 t6_10 (if r_16<r_16 then r_16 else r_16) (if r_16 > r_16 then r_16 else r_16) true
  | false =>
   R47a_0 N ys_15 x b_1 b_2 b_3 b_4 b_5 b_6 b_7 of_8 t6_9 t6_10 (if r_16<out_11 then r_16 else out_11) (if r_16 > out_12 then r_16 else out_12) true
 | .pan p_17 =>
  .fail
 | .fail=>.fail:Out ((Int×(Int×Unit))×(Int×Unit))):=by
 kernel_rfl
noncomputable def F47a (N:Nat) (x:(J1×((Unit×(Int×Unit))×(Value×Unit)))):Out ((Int×(Int×Unit))×(Int×Unit)) :=
 match f105 ((),(x.1,())) with
 | .ret r_18 =>
  R47a_0 N r_18 x x.1.1 x.1.2.1 x.1.2.2.1 x.1.2.2.2.1 x.1.2.2.2.2.1 x.1.2.2.2.2.2.1 x.1.2.2.2.2.2.2.1 x.2.1 (0:Int) (0:Int) (0:Int) (0:Int) false
 | _=>.fail
theorem e47a (N:Nat) (x:(J1×((Unit×(Int×Unit))×(Value×Unit)))):vfn Tryz.prog (phi specs47a) hints47a N Tryz.f47 true false (.prod K0 (.prod (.clo 48 .unit (.prod (.ptr (.int .i64)) .unit)) (.prod .raw .unit))) (.prod (.prod (.int .i64) (.prod (.int .i64) .unit)) (.prod (.int .i64) .unit)) (x.1,x.2.1,(Value.func (.func 50) #[] #[]),())=F47a N x:=by
 kernel_rfl
@[irreducible] noncomputable def f47a (x:(J1×((Unit×(Int×Unit))×(Value×Unit)))):Out ((Int×(Int×Unit))×(Int×Unit)):=vfn Tryz.prog (phi specs47a) hints47a fuel Tryz.f47 true false (.prod K0 (.prod (.clo 48 .unit (.prod (.ptr (.int .i64)) .unit)) (.prod .raw .unit))) (.prod (.prod (.int .i64) (.prod (.int .i64) .unit)) (.prod (.int .i64) .unit)) x
noncomputable def sp47a:Spec:=⟨47,.call,(.prod K0 (.prod (.clo 48 .unit (.prod (.ptr (.int .i64)) .unit)) (.prod .raw .unit))),(.prod (.prod (.int .i64) (.prod (.int .i64) .unit)) (.prod (.int .i64) .unit)),true,false,f47a⟩
theorem q47a (x:(J1×((Unit×(Int×Unit))×(Value×Unit)))):vfn Tryz.prog (phi specs47a) hints47a fuel Tryz.f47 true false (.prod K0 (.prod (.clo 48 .unit (.prod (.ptr (.int .i64)) .unit)) (.prod .raw .unit))) (.prod (.prod (.int .i64) (.prod (.int .i64) .unit)) (.prod (.int .i64) .unit)) x=f47a x:=by kernel_rfl
theorem c47a:Contract Tryz.prog sp47a:=contract_at (l:=specs47a) (arg:=(.prod K0 (.prod (.clo 48 .unit (.prod (.ptr (.int .i64)) .unit)) (.prod .raw .unit)))) (res:=(.prod (.prod (.int .i64) (.prod (.int .i64) .unit)) (.prod (.int .i64) .unit))) (multi:=true) (own:=false) (F:=f47a) mixed (all_cons c80a (all_cons c105 (all_cons c50 (all_cons c48 all_nil)))) Tryz.func47 rfl hints47a fun x _=>⟨fuel,q47a x⟩
noncomputable def specs47b:List Spec:=[sp80a,sp105,sp50,sp53]
def hints47b:List (Nat×List Nat):=[]
noncomputable def R47b_0 (N:Nat) (ys_15:List (J1×((List Int)×Unit))) (x:(J1×((Unit×(Int×Unit))×(Value×Unit)))) (b_1:Int) (b_2:Int) (b_3:Int) (b_4:Int) (b_5:Int) (b_6:Int) (b_7:(List (Int×(Int×((Int×(Int×Unit))×(Int×(Int×((Int×(Int×(Int×(Int×Unit))))×Unit)))))))) (of_8:(Unit×(Int×Unit))) (t6_9:Int) (t6_10:Int) (out_11:Int) (out_12:Int) (met_13:Bool):Out ((Int×(Int×Unit))×(Int×Unit)) :=
 vrng Tryz.prog (phi specs47b) hints47b N Tryz.f47 true false (.prod (.prod (.int .i64) (.prod (.int .i64) .unit)) (.prod (.int .i64) .unit)) [.at 1,.at 1,.at 1,.at 0,.at 1,.at 0] (.prod K0 (.prod (.list (.int .i64)) .unit)) ys_15 [.d K0 x.1,.d (.clo 53 .unit (.prod (.ptr (.int .i64)) .unit)) x.2.1,.d .raw (Value.func (.func 50) #[] #[]),.box [.d (.int .i64) x.1.1,.d (.int .i64) x.1.2.1,.d (.int .i64) x.1.2.2.1,.d (.int .i64) x.1.2.2.2.1,.d (.int .i64) x.1.2.2.2.2.1,.d (.int .i64) x.1.2.2.2.2.2.1,.d (.list (.prod (.int .i64) (.prod (.int .i64) (.prod (.prod (.int .i64) (.prod (.int .i64) .unit)) (.prod (.int .i64) (.prod (.int .i64) (.prod (.prod (.int .i64) (.prod (.int .i64) (.prod (.int .i64) (.prod (.int .i64) .unit)))) .unit))))))) x.1.2.2.2.2.2.2.1],.box [.d (.clo 53 .unit (.prod (.ptr (.int .i64)) .unit)) x.2.1],.box [.d .raw (Value.func (.func 50) #[] #[])],.box [.d (.int .i64) (0:Int),.d (.int .i64) (0:Int)],.d (.int .i64) (0:Int),.box [.d (.int .i64) (0:Int),.d (.int .i64) (0:Int)],.box [.d .bool false],.und,.und,.d K0 x.1,.d (.clo 105 .unit (.prod (.ptr K0) .unit)) ((),(x.1,())),.und,.und,.und,.und,.und,.und,.und,.und,.und,.und,.und,.und,.und,.und,.und,.und,.und,.und,.und,.und,.und,.und,.und,.und,.und,.und] [.d K0 x.1,.d (.clo 53 .unit (.prod (.ptr (.int .i64)) .unit)) x.2.1,.d .raw (Value.func (.func 50) #[] #[]),.box [.d (.int .i64) b_1,.d (.int .i64) b_2,.d (.int .i64) b_3,.d (.int .i64) b_4,.d (.int .i64) b_5,.d (.int .i64) b_6,.d (.list (.prod (.int .i64) (.prod (.int .i64) (.prod (.prod (.int .i64) (.prod (.int .i64) .unit)) (.prod (.int .i64) (.prod (.int .i64) (.prod (.prod (.int .i64) (.prod (.int .i64) (.prod (.int .i64) (.prod (.int .i64) .unit)))) .unit))))))) b_7],.box [.d (.clo 53 .unit (.prod (.ptr (.int .i64)) .unit)) of_8],.box [.d .raw (Value.func (.func 50) #[] #[])],.box [.d (.int .i64) t6_9,.d (.int .i64) t6_10],.d (.int .i64) (0:Int),.box [.d (.int .i64) out_11,.d (.int .i64) out_12],.box [.d .bool met_13],.und,.und,.d K0 x.1,.d (.clo 105 .unit (.prod (.ptr K0) .unit)) ((),(x.1,())),.und,.und,.und,.und,.und,.und,.und,.und,.und,.und,.und,.und,.und,.und,.und,.und,.und,.und,.und,.und,.und,.und,.und,.und,.und,.und]
theorem R47b_0_nil (N:Nat) (x:(J1×((Unit×(Int×Unit))×(Value×Unit)))) (b_1:Int) (b_2:Int) (b_3:Int) (b_4:Int) (b_5:Int) (b_6:Int) (b_7:(List (Int×(Int×((Int×(Int×Unit))×(Int×(Int×((Int×(Int×(Int×(Int×Unit))))×Unit)))))))) (of_8:(Unit×(Int×Unit))) (t6_9:Int) (t6_10:Int) (out_11:Int) (out_12:Int) (met_13:Bool):R47b_0 N  [] x b_1 b_2 b_3 b_4 b_5 b_6 b_7 of_8 t6_9 t6_10 out_11 out_12 met_13 =
 (
 match (!met_13) with
 | true =>
  .ret (((0:Int),((0:Int),())),((5:Int),()))
 | false =>
  .ret ((out_11,(out_12,())),((0:Int),())):Out ((Int×(Int×Unit))×(Int×Unit))):=by
 kernel_rfl
theorem R47b_0_cons (N:Nat) (y_14:(J1×((List Int)×Unit))) (ys_15:List (J1×((List Int)×Unit))) (x:(J1×((Unit×(Int×Unit))×(Value×Unit)))) (b_1:Int) (b_2:Int) (b_3:Int) (b_4:Int) (b_5:Int) (b_6:Int) (b_7:(List (Int×(Int×((Int×(Int×Unit))×(Int×(Int×((Int×(Int×(Int×(Int×Unit))))×Unit)))))))) (of_8:(Unit×(Int×Unit))) (t6_9:Int) (t6_10:Int) (out_11:Int) (out_12:Int) (met_13:Bool):R47b_0 N  (y_14 :: ys_15) x b_1 b_2 b_3 b_4 b_5 b_6 b_7 of_8 t6_9 t6_10 out_11 out_12 met_13 =
 (
 match f53 (y_14,(of_8.2.1,())) with
 | .ret r_16 =>
  match (!met_13) with
  | true =>
   R47b_0 N ys_15 x b_1 b_2 b_3 b_4 b_5 b_6 b_7 of_8 t6_9 t6_10 (if r_16<r_16 then r_16 else r_16) (if r_16 > r_16 then r_16 else r_16) true
  | false =>
   R47b_0 N ys_15 x b_1 b_2 b_3 b_4 b_5 b_6 b_7 of_8 t6_9 t6_10 (if r_16<out_11 then r_16 else out_11) (if r_16 > out_12 then r_16 else out_12) true
 | .pan p_17 =>
  .fail
 | .fail=>.fail:Out ((Int×(Int×Unit))×(Int×Unit))):=by
 kernel_rfl
noncomputable def F47b (N:Nat) (x:(J1×((Unit×(Int×Unit))×(Value×Unit)))):Out ((Int×(Int×Unit))×(Int×Unit)) :=
 match f105 ((),(x.1,())) with
 | .ret r_18 =>
  R47b_0 N r_18 x x.1.1 x.1.2.1 x.1.2.2.1 x.1.2.2.2.1 x.1.2.2.2.2.1 x.1.2.2.2.2.2.1 x.1.2.2.2.2.2.2.1 x.2.1 (0:Int) (0:Int) (0:Int) (0:Int) false
 | _=>.fail
theorem e47b (N:Nat) (x:(J1×((Unit×(Int×Unit))×(Value×Unit)))):vfn Tryz.prog (phi specs47b) hints47b N Tryz.f47 true false (.prod K0 (.prod (.clo 53 .unit (.prod (.ptr (.int .i64)) .unit)) (.prod .raw .unit))) (.prod (.prod (.int .i64) (.prod (.int .i64) .unit)) (.prod (.int .i64) .unit)) (x.1,x.2.1,(Value.func (.func 50) #[] #[]),())=F47b N x:=by
 kernel_rfl
@[irreducible] noncomputable def f47b (x:(J1×((Unit×(Int×Unit))×(Value×Unit)))):Out ((Int×(Int×Unit))×(Int×Unit)):=vfn Tryz.prog (phi specs47b) hints47b fuel Tryz.f47 true false (.prod K0 (.prod (.clo 53 .unit (.prod (.ptr (.int .i64)) .unit)) (.prod .raw .unit))) (.prod (.prod (.int .i64) (.prod (.int .i64) .unit)) (.prod (.int .i64) .unit)) x
noncomputable def sp47b:Spec:=⟨47,.call,(.prod K0 (.prod (.clo 53 .unit (.prod (.ptr (.int .i64)) .unit)) (.prod .raw .unit))),(.prod (.prod (.int .i64) (.prod (.int .i64) .unit)) (.prod (.int .i64) .unit)),true,false,f47b⟩
theorem q47b (x:(J1×((Unit×(Int×Unit))×(Value×Unit)))):vfn Tryz.prog (phi specs47b) hints47b fuel Tryz.f47 true false (.prod K0 (.prod (.clo 53 .unit (.prod (.ptr (.int .i64)) .unit)) (.prod .raw .unit))) (.prod (.prod (.int .i64) (.prod (.int .i64) .unit)) (.prod (.int .i64) .unit)) x=f47b x:=by kernel_rfl
theorem c47b:Contract Tryz.prog sp47b:=contract_at (l:=specs47b) (arg:=(.prod K0 (.prod (.clo 53 .unit (.prod (.ptr (.int .i64)) .unit)) (.prod .raw .unit)))) (res:=(.prod (.prod (.int .i64) (.prod (.int .i64) .unit)) (.prod (.int .i64) .unit))) (multi:=true) (own:=false) (F:=f47b) mixed (all_cons c80a (all_cons c105 (all_cons c50 (all_cons c53 all_nil)))) Tryz.func47 rfl hints47b fun x _=>⟨fuel,q47b x⟩
noncomputable def specs20o:List Spec:=[sp32,sp46,sp47a]
def hints20:List (Nat×List Nat):=[(4000003,[3,3])]
noncomputable def F20 (N:Nat) (x:(J1×(Int×Unit))):Out ((Int×(Int×Unit))×(Int×Unit)) :=
 match f32 (x.1,()) with
 | .ret r_1 =>
  match (!r_1) with
  | true =>
   .ret (((0:Int),((0:Int),())),((2:Int),()))
  | false =>
   match f46 (x.2.1,((0:Int),((IntKind.i64.wrap ((lenI x.1.2.2.2.2.2.2.1) - (1:Int))),()))) with
   | .ret r_3 =>
    match (!r_3) with
    | true =>
     .ret (((0:Int),((0:Int),())),((2:Int),()))
    | false =>
     match f47a (x.1,(((),(x.2.1,())),((Value.func (.func 50) #[] #[]),()))) with
     | .ret r_5 =>
      .ret (r_5.1,(r_5.2.1,()))
     | .pan p_6 =>
      .pan p_6
     | .fail=>.fail
   | .pan p_4 =>
    .pan p_4
   | .fail=>.fail
 | .pan p_2 =>
  .pan p_2
 | .fail=>.fail
theorem e20 (N:Nat) (x:(J1×(Int×Unit))):vfn Tryz.prog (phi specs20o) hints20 N Tryz.f20 true false (.prod K0 (.prod (.int .i64) .unit)) (.prod (.prod (.int .i64) (.prod (.int .i64) .unit)) (.prod (.int .i64) .unit)) x=F20 N x:=by
 kernel_rfl
noncomputable def f20 (x:(J1×(Int×Unit))):Out ((Int×(Int×Unit))×(Int×Unit)):=F20 fuel x
noncomputable def sp20:Spec:=⟨20,.call,(.prod K0 (.prod (.int .i64) .unit)),(.prod (.prod (.int .i64) (.prod (.int .i64) .unit)) (.prod (.int .i64) .unit)),true,false,f20⟩
theorem c20:Contract Tryz.prog sp20:=contract_at (l:=specs20o) (arg:=(.prod K0 (.prod (.int .i64) .unit))) (res:=(.prod (.prod (.int .i64) (.prod (.int .i64) .unit)) (.prod (.int .i64) .unit))) (multi:=true) (own:=false) (F:=f20) mixed (all_cons c32 (all_cons c46 (all_cons c47a all_nil))) Tryz.func20 rfl hints20 fun x _=>⟨fuel,e20 fuel x⟩
noncomputable def specs21:List Spec:=[sp32,sp51,sp52]
def hints21:List (Nat×List Nat):=[]
noncomputable def F21 (N:Nat) (x:(J1×((List Int)×Unit))):Out ((List Int)×(Int×Unit)) :=
 match f32 (x.1,()) with
 | .ret r_1 =>
  match (!r_1) with
  | true =>
   .ret (([]:List Int),((2:Int),()))
  | false =>
   match f51 (x.1,(x.2.1,())) with
   | .ret r_3 =>
    match (!r_3) with
    | true =>
     .ret (([]:List Int),((2:Int),()))
    | false =>
     match f52 (x,()) with
     | .ret r_5 =>
      .ret (r_5.1,((0:Int),()))
     | .pan p_6 =>
      .pan p_6
     | .fail=>.fail
   | .pan p_4 =>
    .pan p_4
   | .fail=>.fail
 | .pan p_2 =>
  .pan p_2
 | .fail=>.fail
theorem e21 (N:Nat) (x:(J1×((List Int)×Unit))):vfn Tryz.prog (phi specs21) hints21 N Tryz.f21 true false (.prod K0 (.prod (.list (.int .i64)) .unit)) (.prod (.list (.int .i64)) (.prod (.int .i64) .unit)) x=F21 N x:=by
 kernel_rfl
noncomputable def f21 (x:(J1×((List Int)×Unit))):Out ((List Int)×(Int×Unit)):=F21 fuel x
noncomputable def sp21:Spec:=⟨21,.call,(.prod K0 (.prod (.list (.int .i64)) .unit)),(.prod (.list (.int .i64)) (.prod (.int .i64) .unit)),true,false,f21⟩
theorem c21:Contract Tryz.prog sp21:=contract_at (l:=specs21) (arg:=(.prod K0 (.prod (.list (.int .i64)) .unit))) (res:=(.prod (.list (.int .i64)) (.prod (.int .i64) .unit))) (multi:=true) (own:=false) (F:=f21) mixed (all_cons c32 (all_cons c51 (all_cons c52 all_nil))) Tryz.func21 rfl hints21 fun x _=>⟨fuel,e21 fuel x⟩
noncomputable def specs23:List Spec:=[sp32,sp46,sp47b]
def hints23:List (Nat×List Nat):=[(4000003,[3,3])]
noncomputable def F23 (N:Nat) (x:(J1×(Int×Unit))):Out ((Int×(Int×Unit))×(Int×Unit)) :=
 match f32 (x.1,()) with
 | .ret r_1 =>
  match (!r_1) with
  | true =>
   .ret (((0:Int),((0:Int),())),((2:Int),()))
  | false =>
   match f46 (x.2.1,((0:Int),((IntKind.i64.wrap (x.1.1 - (1:Int))),()))) with
   | .ret r_3 =>
    match (!r_3) with
    | true =>
     .ret (((0:Int),((0:Int),())),((2:Int),()))
    | false =>
     match f47b (x.1,(((),(x.2.1,())),((Value.func (.func 50) #[] #[]),()))) with
     | .ret r_5 =>
      .ret (r_5.1,(r_5.2.1,()))
     | .pan p_6 =>
      .pan p_6
     | .fail=>.fail
   | .pan p_4 =>
    .pan p_4
   | .fail=>.fail
 | .pan p_2 =>
  .pan p_2
 | .fail=>.fail
theorem e23 (N:Nat) (x:(J1×(Int×Unit))):vfn Tryz.prog (phi specs23) hints23 N Tryz.f23 true false (.prod K0 (.prod (.int .i64) .unit)) (.prod (.prod (.int .i64) (.prod (.int .i64) .unit)) (.prod (.int .i64) .unit)) x=F23 N x:=by
 kernel_rfl
noncomputable def f23 (x:(J1×(Int×Unit))):Out ((Int×(Int×Unit))×(Int×Unit)):=F23 fuel x
noncomputable def sp23:Spec:=⟨23,.call,(.prod K0 (.prod (.int .i64) .unit)),(.prod (.prod (.int .i64) (.prod (.int .i64) .unit)) (.prod (.int .i64) .unit)),true,false,f23⟩
theorem c23:Contract Tryz.prog sp23:=contract_at (l:=specs23) (arg:=(.prod K0 (.prod (.int .i64) .unit))) (res:=(.prod (.prod (.int .i64) (.prod (.int .i64) .unit)) (.prod (.int .i64) .unit))) (multi:=true) (own:=false) (F:=f23) mixed (all_cons c32 (all_cons c46 (all_cons c47b all_nil))) Tryz.func23 rfl hints23 fun x _=>⟨fuel,e23 fuel x⟩
end Go.V
namespace Go.V
open Go.Proofs
noncomputable def specs5:List Spec:=[sp9v,sp16,sp20,sp21,sp22,sp23,sp12]
def hints5:List (Nat×List Nat):=[]
noncomputable def F5 (N:Nat) (x:(Int×(Int×(Int×(Int×(Int×Unit)))))):Out Bool :=
 match (decide (x.1<(1:Int))) with
 | true =>
  match f9v () with
  | .ret r_1 =>
   .ret r_1
  | .pan p_2 =>
   .pan p_2
  | .fail=>.fail
 | false =>
  match (decide (x.1 > (48:Int))) with
  | true =>
   match f9v () with
   | .ret r_3 =>
    .ret r_3
   | .pan p_4 =>
    .pan p_4
   | .fail=>.fail
  | false =>
   match (decide (x.2.1<(0:Int))) with
   | true =>
    match f9v () with
    | .ret r_5 =>
     .ret r_5
    | .pan p_6 =>
     .pan p_6
    | .fail=>.fail
   | false =>
    match (decide (x.2.1 > (800:Int))) with
    | true =>
     match f9v () with
     | .ret r_7 =>
      .ret r_7
     | .pan p_8 =>
      .pan p_8
     | .fail=>.fail
    | false =>
     match (decide (x.2.2.1<(0:Int))) with
     | true =>
      match f9v () with
      | .ret r_9 =>
       .ret r_9
      | .pan p_10 =>
       .pan p_10
      | .fail=>.fail
     | false =>
      match (decide (x.2.2.1 > (800:Int))) with
      | true =>
       match f9v () with
       | .ret r_11 =>
        .ret r_11
       | .pan p_12 =>
        .pan p_12
       | .fail=>.fail
      | false =>
       match (decide (x.2.2.2.1<(0:Int))) with
       | true =>
        match f9v () with
        | .ret r_13 =>
         .ret r_13
        | .pan p_14 =>
         .pan p_14
        | .fail=>.fail
       | false =>
        match (decide (x.2.2.2.1 > (20:Int))) with
        | true =>
         match f9v () with
         | .ret r_15 =>
          .ret r_15
         | .pan p_16 =>
          .pan p_16
         | .fail=>.fail
        | false =>
         match (decide (x.2.2.2.2.1<(0:Int))) with
         | true =>
          match f9v () with
          | .ret r_17 =>
           .ret r_17
          | .pan p_18 =>
           .pan p_18
          | .fail=>.fail
         | false =>
          match (decide (x.2.2.2.2.1 > (20:Int))) with
          | true =>
           match f9v () with
           | .ret r_19 =>
            .ret r_19
           | .pan p_20 =>
            .pan p_20
           | .fail=>.fail
          | false =>
           match f20 (((1:Int),(x.1,(x.2.1,(x.2.2.1,((0:Int),((0:Int),(([((0:Int),(x.2.2.2.1,((x.2.2.2.2.1,x.2.2.2.2),((0:Int),((0:Int),(((0:Int),((0:Int),((0:Int),((0:Int),())))),()))))))]:List (Int×(Int×((Int×(Int×Unit))×(Int×(Int×((Int×(Int×(Int×(Int×Unit))))×Unit))))))),()))))))),((0:Int),())) with
           | .ret r_21 =>
            match f21 (((1:Int),(x.1,(x.2.1,(x.2.2.1,((0:Int),((0:Int),(([((0:Int),(x.2.2.2.1,((x.2.2.2.2.1,x.2.2.2.2),((0:Int),((0:Int),(((0:Int),((0:Int),((0:Int),((0:Int),())))),()))))))]:List (Int×(Int×((Int×(Int×Unit))×(Int×(Int×((Int×(Int×(Int×(Int×Unit))))×Unit))))))),()))))))),(([x.2.2.2.2.1]:List Int),())) with
            | .ret r_23 =>
             match f22 (((1:Int),(x.1,(x.2.1,(x.2.2.1,((0:Int),((0:Int),(([((0:Int),(x.2.2.2.1,((x.2.2.2.2.1,x.2.2.2.2),((0:Int),((0:Int),(((0:Int),((0:Int),((0:Int),((0:Int),())))),()))))))]:List (Int×(Int×((Int×(Int×Unit))×(Int×(Int×((Int×(Int×(Int×(Int×Unit))))×Unit))))))),()))))))),(([x.2.2.2.2.1]:List Int),((0:Int),()))) with
             | .ret r_25 =>
              match f23 (((1:Int),(x.1,(x.2.1,(x.2.2.1,((0:Int),((0:Int),(([((0:Int),(x.2.2.2.1,((x.2.2.2.2.1,x.2.2.2.2),((0:Int),((0:Int),(((0:Int),((0:Int),((0:Int),((0:Int),())))),())))))),((0:Int),(x.2.2.2.1,((x.2.2.2.2.1,x.2.2.2.2),((0:Int),((0:Int),(((0:Int),((0:Int),((0:Int),((0:Int),())))),()))))))]:List (Int×(Int×((Int×(Int×Unit))×(Int×(Int×((Int×(Int×(Int×(Int×Unit))))×Unit))))))),()))))))),((0:Int),())) with
              | .ret r_27 =>
               match (r_21.2.1 != (0:Int)) with
               | true =>
                .ret false
               | false =>
                match (r_23.2.1 != (0:Int)) with
                | true =>
                 .ret false
                | false =>
                 match (r_25.2.1 != (0:Int)) with
                 | true =>
                  .ret false
                 | false =>
                  match (r_27.2.1 != (0:Int)) with
                  | true =>
                   .ret false
                  | false =>
                   match (r_21.1.1 != r_21.1.2.1) with
                   | true =>
                    .ret false
                   | false =>
                    match (decide (r_21.1.1<(0:Int))) with
                    | true =>
                     .ret false
                    | false =>
                     match (decide (r_21.1.1 > (16000:Int))) with
                     | true =>
                      .ret false
                     | false =>
                      match ((lenI r_23.1) != (1:Int)) with
                      | true =>
                       .ret false
                      | false =>
                       match f12 (r_21.1.1,(x.1,((1:Int),()))) with
                       | .ret r_29 =>
                        match f12 ((IntKind.i64.wrap ((2:Int) * r_21.1.1)),(x.1,((1:Int),()))) with
                        | .ret r_31 =>
                         match r_29.2.1 with
                         | true =>
                          match r_31.2.1 with
                          | true =>
                           bif (inb (0:Int) r_23.1.length) then
                            match ((List.getD r_23.1 (0:Int).toNat (0:Int))==(IntKind.i64.wrap (r_29.1 * x.1))) with
                            | true =>
                             match (r_25.1==(IntKind.i64.wrap (r_21.1.1 - (IntKind.i64.wrap (r_29.1 * x.1))))) with
                             | true =>
                              match (eqI r_27.1.1 (IntKind.i64.wrap (r_31.1 * x.1)) && (eqI r_27.1.2.1 (IntKind.i64.wrap (r_31.1 * x.1)) && true)) with
                              | true =>
                               match f9v () with
                               | .ret r_33 =>
                                .ret r_33
                               | .pan p_34 =>
                                .pan p_34
                               | .fail=>.fail
                              | false =>
                               .ret false
                             | false =>
                              .ret false
                            | false =>
                             .ret false
                           else .fail
                          | false =>
                           .ret false
                         | false =>
                          .ret false
                        | .pan p_32 =>
                         .pan p_32
                        | .fail=>.fail
                       | .pan p_30 =>
                        .pan p_30
                       | .fail=>.fail
              | .pan p_28 =>
               .pan p_28
              | .fail=>.fail
             | .pan p_26 =>
              .pan p_26
             | .fail=>.fail
            | .pan p_24 =>
             .pan p_24
            | .fail=>.fail
           | .pan p_22 =>
            .pan p_22
           | .fail=>.fail
theorem e5 (N:Nat) (x:(Int×(Int×(Int×(Int×(Int×Unit)))))):vfn Tryz.prog (phi specs5) hints5 N Tryz.f5 false false (.prod (.int .i64) (.prod (.int .i64) (.prod (.int .i64) (.prod (.int .i64) (.prod (.int .i64) .unit))))) .bool x=F5 N x:=by
 kernel_rfl
noncomputable def f5 (x:(Int×(Int×(Int×(Int×(Int×Unit)))))):Out Bool:=F5 fuel x
noncomputable def sp5:Spec:=⟨5,.call,(.prod (.int .i64) (.prod (.int .i64) (.prod (.int .i64) (.prod (.int .i64) (.prod (.int .i64) .unit))))),.bool,false,false,f5⟩
theorem c5:Contract Tryz.prog sp5:=contract_at (l:=specs5) (arg:=(.prod (.int .i64) (.prod (.int .i64) (.prod (.int .i64) (.prod (.int .i64) (.prod (.int .i64) .unit)))))) (res:=.bool) (multi:=false) (own:=false) (F:=f5) mixed (all_cons c9v (all_cons c16 (all_cons c20 (all_cons c21 (all_cons c22 (all_cons c23 (all_cons c12 all_nil))))))) Tryz.func5 rfl hints5 fun x _=>⟨fuel,e5 fuel x⟩
end Go.V
