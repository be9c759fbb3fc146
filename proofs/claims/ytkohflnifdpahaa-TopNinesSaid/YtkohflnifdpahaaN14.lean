/- A part of the proof of TopNinesSaid: no condition beyond what each theorem says. -/
import Derived.Test.YtkohflnifdpahaaN10
import Derived.Test.YtkohflnifdpahaaN13
set_option linter.all false
namespace Go.V
open Go.Proofs
open Go.RowKit (Below)
noncomputable def isV (a b:Value):Bool:=open Classical in decide (a=b)
theorem isV_eq {a b:Value} (h:isV a b=true):a=b:=by
  unfold isV at h
  exact @of_decide_eq_true _ (Classical.propDecidable _) h
theorem isV_refl (a:Value):isV a a=true:=by unfold isV;exact @decide_eq_true _ (Classical.propDecidable _) rfl
abbrev NW:Type:=Value×List Int
def NowAt (s:NW) (w:World):Prop:=∃ b cap cells T,(s.1 = .slice (some ⟨b,0,none⟩) s.2.length cap/\s.2.length<=cap)/\w.heap[b]? = some (.cells cells T (0,0))/\∀ (i:Nat) (x:Int),s.2[i]? = some x->cells[i]? = some (.int .i64 x)
theorem now_keep {s:NW} {w w':World} (h:NowAt s w) (hs:∀ b,ownB s.1=some b->w'.heap[b]? = w.heap[b]?):NowAt s w':=by
  obtain ⟨b,cap,cells,T,⟨h1,h0⟩,h2,h3⟩:=h
  exact ⟨b,cap,cells,T,⟨h1,h0⟩,(hs b (by rw [h1];rfl)).trans h2,h3⟩
def HNow:Hole where
  σ:=NW
  hb s _ b:=ownB s.1=some b
  I s _ w:=NowAt s w
  keep s M w M' w' h _ hs:=now_keep h hs
  same s M w w' _ _ b h:=h
  lt s M w b h hb:=by
    obtain ⟨b',cap,cells,T,⟨h1,_⟩,h2,h3⟩:=h
    rw [h1] at hb
    cases hb
    exact (Array.getElem?_eq_some_iff.1 h2).1
  nd s M w b c h hb e:=by
    obtain ⟨b',cap,cells,T,⟨h1,_⟩,h2,h3⟩:=h
    rw [h1] at hb
    cases hb
    rw [h2] at e
    cases e
theorem now_rep {s:NW} {w:World} (h:NowAt s w) {M:Mut} (hM:∀ b o,ownB s.1=some b->¬ M b o):RepV M w (.list (.int .i64)) s.1 s.2:=by
  obtain ⟨b,cap,cells,T,⟨h1,h0⟩,h2,h3⟩:=h
  refine ⟨[s.1],rfl,?_⟩
  rw [h1]
  refine ⟨some ⟨b,0,none⟩,cap,rfl,h0,fun i hi=>⟨b,0,[.int .i64 s.2[i]],rfl,rfl,fun j hj=>?_,rfl⟩⟩
  have hi:i<List.length (α:=Int) s.2:=hi
  have hj:j=0:=by simpa using hj
  subst hj
  refine ⟨?_,hM b _ (by rw [h1];rfl)⟩
  show w.cell? ⟨b,0+i * 1+0,none⟩=some (.int .i64 (List.get (α:=Int) s.2 ⟨i,hi⟩))
  rw [Nat.mul_one,Nat.add_zero]
  have:=h3 i s.2[i] (List.getElem?_eq_getElem hi)
  rw [cell_of_row w b (0+i) cells T (0,0) h2,Nat.zero_add]
  exact this
theorem raw_call {fn:Nat} {t res:Ty} {f:List Int×t.den->Out res.den} (hc:Contract Try.prog ⟨fn,.call,.prod (.list (.int .i64)) t,res,false,false,f⟩) (hflat:∀ M M' w v r,RepV M w res v r->RepV M' w res v r)
    (ht:∀ M M' w vs x,RepT M w t vs x->RepT M' w t vs x) (s:NW):MContract Try.prog HNow s ⟨fn,.call,.prod .raw t,res,false,false,fun x=>bif isV x.1 s.1 then f (s.2,x.2) else .fail⟩:=by
  intro x M w vs r hI hH hvs hlt hM hf
  have hf:(bif isV x.1 s.1 then f (s.2,x.2) else .fail) = .ret r:=hf
  cases hv:isV x.1 s.1 with
  | false=>rw [hv] at hf;cases hf
  | true =>
  rw [hv] at hf
  have hv:=isV_eq hv
  obtain ⟨v,rest,e1,⟨cs,e2,e3⟩,h2⟩:=hvs
  have e4:=e3.1
  subst e4
  have e2:v=x.1:=e2
  have hrep:RepT (fun b o=>M b o/\ownB s.1≠some b) w (.prod (.list (.int .i64)) t) vs.toList (s.2,x.2):=⟨v,rest,e1,by rw [e2,hv];exact now_rep hH fun b o e h=>h.2 e,ht _ _ _ _ _ h2⟩
  unfold Contract at hc
  have hc:=hc (s.2,x.2) (fun b o=>M b o/\ownB s.1≠some b) w vs hI hrep fun b o h=>hlt b o h.1
  have hf:f (s.2,x.2) = .ret r:=hf
  dsimp only at hc
  erw [hf] at hc
  refine hc.mono ?_
  rintro e w' ⟨v',rfl,hb,M',k1,k2,k3,k4⟩
  have hlb:∀ b,ownB s.1=some b->b<w.heap.size:=fun b hb'=>HNow.lt s M w b hH hb'
  refine ⟨v',rfl,Fr.below hb fun k hk=>hk.1,fun w1 hw1 hfr hs=>⟨now_keep hH fun b hb'=>(hs b hb').trans (hb.block b (hlb b hb')),fun b h=>h⟩,?_⟩
  exact ⟨M,fun _ _ h=>h,fun _ _ h=>.inl h,hflat _ _ _ _ _ k3,fun b h=>by simp [mkRes,ownS] at h⟩
noncomputable def r113_6:Array Oper:=regAt 6 (bodyOf Try.f62)
theorem info113_6:r113_6.toList.map opInfo=[(some 30,.load 22 (.tmp 3),none),(some 31,.move (.tmp 0),none),(some 32,.move (.tmp 11),none),(some 33,.indexAddr 22 (.tmp 30) (.tmp 31),none),(none,.store 3 (.tmp 33) (.tmp 32),none)]:=by kernel_rfl
noncomputable def g113_6 (s:HNow.σ) (st:St):Bool×Outs HNow:=match get st 30 with
  | .d .raw v=>(match get st 31 with
    | .d (.int .i64) r=>(match get st 32 with
      | .d (.int .i64) n=>((!isBox (get st 33) && st.length==80) && (isV v s.1 && inb r s.2.length),.some [((s.1,s.2.set r.toNat n),st.set 33 .und)])
      | _=>(false,.some []))
    | _=>(false,.some []))
  | _=>(false,.some [])
theorem store_ok:HandQ Try.prog HNow r113_6 3 1 g113_6:=by
  intro F M0 w0 n hI hpl Q rest s st act w hc h1 hK
  obtain ⟨o3,i3,d3,p3,q3⟩:=infoAt info113_6 (i:=3) rfl
  obtain ⟨o4,i4,d4,p4,q4⟩:=infoAt info113_6 (i:=4) rfl
  simp only at d3 p3 q3 d4 p4 q4
  unfold g113_6 at h1 hK
  split at h1
  rotate_left
  . cases h1
  rename_i v e30
  split at h1
  rotate_left
  . cases h1
  rename_i rD e31
  obtain ⟨r,hrr⟩:∃ z:Int,z=rD:=⟨_,rfl⟩
  subst hrr
  split at h1
  rotate_left
  . cases h1
  rename_i mD e32
  obtain ⟨m,hmm⟩:∃ z:Int,z=mD:=⟨_,rfl⟩
  subst hmm
  simp only [Bool.and_eq_true,Bool.not_eq_true',beq_iff_eq] at h1
  obtain ⟨⟨hnb,hlen⟩,hv,hr⟩:=h1
  rw [e30] at hK
  dsimp only at hK
  rw [e31] at hK
  dsimp only at hK
  rw [e32] at hK
  dsimp only at hK
  have hv:=isV_eq hv
  obtain ⟨hfr,M,hG⟩:=hc
  have hg:=hG.2.1
  have hsz:act.tmps.size=80:=hg.size.trans hlen
  have t30:tm act 30=s.1:=by
    have sa:=hg.slot 30
    rw [e30] at sa
    exact (repV_raw (show RepV M w .raw (tm act 30) v from sa)).trans hv
  have t31:tm act 31 = .int .i64 r:=by
    have sa:=hg.slot 31
    rw [e31] at sa
    exact slot_int sa
  have t32:tm act 32 = .int .i64 m:=by
    have sa:=hg.slot 32
    rw [e32] at sa
    exact slot_int sa
  obtain ⟨b,cap,cells,T,⟨h1,h0⟩,h2,h3⟩:=id hG.1
  rw [h1] at t30
  have hr0:0<=r/\r<(s.2.length:Int):=by unfold inb at hr;simpa using hr
  have hrl:r.toNat<s.2.length:=by omega
  have hcs:r.toNat<cells.size:=(Array.getElem?_eq_some_iff.1 (h3 _ _ (List.getElem?_eq_getElem hrl))).1
  obtain ⟨N0,hpn,hcl,hback⟩:=ConcH.lift (H:=HNow) ⟨hfr,M,hG⟩
  obtain ⟨hbL,ML,hgL⟩:=hcl
  have hc1:ConcH HNow F M0 w0 s (st.set 33 .und) (act.put (some 33) (.pointer (some ⟨b,0+r.toNat,none⟩))) w:=hback _ _ _ ⟨hbL,ML,put_und hgL hnb _⟩
  show wpOpsIn (fen none) n Try.prog r113_6 Q (3 :: 4 :: rest) act w
  rw [wpOpsIn_cons]
  refine opn_value i3 (wanted_none q3) (fun c h=>by rw [p3] at h;cases h) (ex_index (E:=3) (e:=.int .i64) (by kernel_rfl) (by kernel_rfl) rfl p3 t30 t31 hr0.1 hr0.2) ?_
  rw [d3,wpOpsIn_cons]
  refine opn_skipped i4 (wanted_none q4) (fun c h=>by rw [p4] at h;cases h) (ex_storeAt (t:=.int .i64) (by kernel_rfl) rfl p4 (u:=.int .i64 m) (tm_put_same (by omega)) (by rw [tm_put_other (by omega),t32]) rfl rfl h2 (by rw [Nat.zero_add];exact hcs)) ?_
  rw [d4]
  obtain ⟨hfr1,M1,hG1⟩:=hc1
  have hbo:∀ k,HNow.hb s w k->k=b:=fun k hk=>by
    have hk:ownB s.1=some k:=hk
    rw [h1] at hk
    cases hk;rfl
  have hfr':Fr (fun k=>k<w.heap.size/\¬ HNow.hb s w k) w (w.setRow b (cells.setIfInBounds (0+r.toNat) (.int .i64 m))):=⟨rfl,rfl,rfl,by rw [setRow_size];exact Nat.le_refl _,fun k hk=>setRow_other fun e=>hk.2 (by rw [e];show ownB s.1=some b;rw [h1];rfl)⟩
  have hnow:∀ w1:World,w1.heap[b]? = some (.cells (cells.setIfInBounds (0+r.toNat) (.int .i64 m)) T (0,0))->NowAt (s.1,s.2.set r.toNat m) w1:=by
    intro w1 hw1
    refine ⟨b,cap,cells.setIfInBounds (0+r.toNat) (.int .i64 m),T,⟨(show s.1 = .slice (some ⟨b,0,none⟩) (s.2.set r.toNat m).length cap by rw [List.length_set];exact h1),(show (s.2.set r.toNat m).length<=cap by rw [List.length_set];exact h0)⟩,hw1,fun i x hx=>?_⟩
    have hy:(s.2.set r.toNat m)[i]? = some x:=hx
    clear hx
    rw [Nat.zero_add,Array.getElem?_setIfInBounds]
    rw [List.getElem?_set] at hy
    by_cases e:r.toNat=i
    . subst e
      rw [if_pos rfl,if_pos hrl] at hy
      cases hy
      rw [if_pos rfl,if_pos hcs]
    . rw [if_neg e] at hy
      rw [if_neg e]
      exact h3 i x hy
  obtain ⟨s',hs'⟩:∃ z:HNow.σ,z=(s.1,s.2.set r.toNat m):=⟨_,rfl⟩
  have hs1:∀ w1:World,w1.heap.size=w.heap.size->Fr (fun k=>k<w.heap.size/\¬ HNow.hb s w k) w w1->(∀ k,HNow.hb s w k->w1.heap[k]? = (w.setRow b (cells.setIfInBounds (0+r.toNat) (.int .i64 m))).heap[k]?)->HNow.I s' M1 w1/\∀ k,HNow.hb s' w1 k->HNow.hb s w k:=by
    intro w1 _ _ hk
    rw [hs']
    exact ⟨hnow w1 ((hk b (by show ownB s.1=some b;rw [h1];rfl)).trans (setRow_same h2)),fun k hk=>hk⟩
  obtain ⟨f1,hG'⟩:=hG1.world hfr' hs1
  rw [hs'] at hG'
  exact hK _ (.head _) _ _ ⟨hfr1.trans f1,M1,hG'⟩
end Go.V
namespace Go.V
open Go.Proofs
open Go.RowKit (Below)
noncomputable def r116_5:Array Oper:=regAt 5 (bodyOf Try.f34)
theorem info116_5:(r116_5.toList.map opInfo)[1]? = some (some 15,.binOp .neq 100 (.tmp 14) (.const .nilFunc) 100,none):=by kernel_rfl
def isFn:Value->Option Bool
  | .nilFunc=>some false
  | .func _ _ _=>some true
  | _=>none
def g116 (st:St):Option St:=match get st 14 with
  | .d .raw v=>(match isFn v with
    | some b=>(match isBox (get st 15) || !(st.length==24) with
      | true=>none
      | false=>some (st.set 15 (.d .bool b)))
    | none=>none)
  | _=>none
theorem und169:Try.prog.underlying 100=some (.func #[75,3] #[4] false):=by kernel_rfl
theorem eq_nilF {w:World} {v:Value} {b:Bool} (hv:isFn v=some b):(Op.equal 100 v .nilFunc).run Try.prog w = .ok (!b) w:=by
  have he:∀ d,(Op.equalIn (d+1) 100 v .nilFunc).run Try.prog w = .ok (!b) w:=fun d=>by
    unfold isFn at hv
    split at hv
    . cases hv;simp [Op.equalIn,run_underlying und169]
    . cases hv;simp [Op.equalIn,run_underlying und169]
    . cases hv
  exact he 9999
theorem ex_neqF {a:Act} {w:World} {o:Oper} (ho:o.op = .binOp .neq 100 (.tmp 14) (.const .nilFunc) 100) {v:Value} (h:tm a 14=v) {b:Bool} (hv:isFn v=some b):(execOp a.eval o).run Try.prog w = .ok (.value (.bool b)) w:=by
  have e1:a.eval (.tmp 14)=v:=h
  have e2:a.eval (.const .nilFunc) = .nilFunc:=rfl
  have he:=eq_nilF (w:=w) hv
  have e3:(binOp .neq 100 v .nilFunc).run Try.prog w = .ok (.bool b) w:=by
    unfold isFn at hv
    split at hv
    . cases hv;simp [binOp,he]
    . cases hv;simp [binOp,he]
    . cases hv
  have e4:eqGuard .neq 100 (.tmp 14) (.const .nilFunc) v .nilFunc=pure ():=by
    unfold isFn at hv
    split at hv
    . rfl
    . rfl
    . cases hv
  simp [execOp,ho,e1,e2,e3,e4]
theorem h116:HandOK Try.prog r116_5 1 0 g116:=by
  intro F M0 w0 m hI hpl Q rest st a w st' hc hg hK
  unfold g116 at hg
  split at hg
  rotate_left
  . cases hg
  rename_i v h14
  split at hg
  rotate_left
  . cases hg
  rename_i b hb
  split at hg
  . cases hg
  rename_i hnb
  simp only [Bool.or_eq_false_iff] at hnb
  obtain ⟨n15,hlen⟩:=hnb
  have hlen:st.length=24:=by simpa using hlen
  cases hg
  obtain ⟨hfr,M,hg⟩:=hc
  have t14:tm a 14=v:=by
    have s:=hg.slot 14
    rw [h14] at s
    obtain ⟨cs,e,q⟩:=s
    have q':cs=[v]:=q.1
    subst q'
    exact e
  have hsz:a.tmps.size=24:=hg.size.trans hlen
  obtain ⟨o1,i1,d1,p1,q1⟩:∃ o,r116_5[1]? = some o/\o.dst=some 15/\o.op = .binOp .neq 100 (.tmp 14) (.const .nilFunc) 100/\o.guard=none:=by
    have hx:=info116_5
    rw [List.getElem?_map,Array.getElem?_toList] at hx
    cases h:r116_5[1]? with
    | none=>rw [h] at hx;cases hx
    | some o=>rw [h] at hx;simp only [Option.map_some,Option.some.injEq,opInfo,Prod.mk.injEq] at hx;exact ⟨o,rfl,hx.1,hx.2.1,hx.2.2⟩
  have g15:=hg.fin (dst:=some 15) (s:=.d .bool b) (v:=.bool b) (fun d' hd=>by cases hd;exact n15) rfl ⟨[.bool b],rfl,rfl⟩
  show wpOpsIn (fen none) m Try.prog r116_5 Q (1 :: rest) a w
  rw [wpOpsIn_cons]
  refine opn_value i1 (wanted_none q1) (fun c h=>by rw [p1] at h;cases h) (ex_neqF p1 t14 hb) ?_
  rw [d1]
  exact hK _ _ ⟨hfr,M,g15⟩
end Go.V
namespace Go.V
open Go.Proofs
noncomputable def specs116:List Spec:=[sp128,sp129,sp130,sp134]
def hints116:List (Nat×List Nat):=[(3,[1,2,9,10])]
noncomputable def specsQ116 (s:Unit):List Spec:=[sp128,sp129,sp130,sp134]
noncomputable def D116_5:Nat->Option (Nat×(Unit->St->Bool×Outs H0)):=fun i=>match i with|1=>some (0,handQ (H:=H0) g116)|_=>none
theorem D116_5_ok:∀ i y,D116_5 i=some y->HandQ Try.prog H0 r116_5 i y.1 y.2:=by
  intro i y h
  unfold D116_5 at h
  split at h
  . cases h;exact handQ_ok h116
  . cases h
noncomputable def T116:List (List Nat×HdH H0):=[([1,1,0,1,0,0,1,1,0,0,1,0],⟨fun {ρ} k s st=>regQ Try.prog H0 (fun s=>phi (specsQ116 s)) hints116 D116_5 5 r116_5 k s st⟩)]
theorem allQ116 (h:∀ s,∀ sp∈specsQ116 s,CallH Try.prog H0 s sp):AllQ Try.prog H0 (bodyOf Try.f34) (T116):=(allQ_cons (c' := .region 5 r116_5 false) (by kernel_rfl) (regQ_ok (fun s g sp hs=>h s sp (List.mem_filter.1 hs).1) hints116 D116_5_ok) allQ_nil)
noncomputable def L116_0 (N:Nat) (n_L116_0:Nat) (x:((Int×(Int×(Bool×Unit)))×(Int×Unit))) (t10_1:Int):Out (Unit×Int) :=
  vloopQ Try.prog H0 (phi specs116) hints116 N (T116) Try.f34 false false (.int .i64) [1,1,0,1,0] n_L116_0 (()) [.und,.d (.int .i64) x.2.1,.box [.d (.int .i64) x.1.1,.d (.int .i64) x.1.2.1,.d .bool x.1.2.2.1],.und,.und,.und,.und,.und,.und,.d (.prod .raw (.prod .raw (.prod .raw (.prod .raw (.prod .raw .unit))))) (Value.nilFunc,((Value.func (.func 48) #[] #[]),((Value.func (.func 49) #[] #[]),((Value.func (.func 50) #[] #[]),((Value.func (.func 51) #[] #[]),()))))),.d (.int .i64) t10_1,.und,.und,.und,.und,.und,.und,.und,.und,.und,.und,.und,.und,.und]
theorem L116_0_succ (N:Nat) (n_L116_0:Nat) (x:((Int×(Int×(Bool×Unit)))×(Int×Unit))) (t10_1:Int):L116_0 N  (n_L116_0+1) x t10_1 =
    (
    match (decide (t10_1<(5:Int))) with
    | true =>
      bif t10_1==(0:Int) then
        L116_0 N n_L116_0 x (IntKind.i64.wrap (t10_1+(1:Int)))
      else
      bif t10_1==(1:Int) then
        match f128 (x.1,(x.2.1,())) with
        | .ret r_2 =>
          match r_2 with
          | true =>
            .ret ((()),t10_1)
          | false =>
            L116_0 N n_L116_0 x (IntKind.i64.wrap (t10_1+(1:Int)))
        | .pan p_3 =>
          .fail
        | .fail=>.fail
      else
      bif t10_1==(2:Int) then
        match f129 (x.1,(x.2.1,())) with
        | .ret r_4 =>
          match r_4 with
          | true =>
            .ret ((()),t10_1)
          | false =>
            L116_0 N n_L116_0 x (IntKind.i64.wrap (t10_1+(1:Int)))
        | .pan p_5 =>
          .fail
        | .fail=>.fail
      else
      bif t10_1==(3:Int) then
        match (x.2.1==(IntKind.i64.wrap (0 - x.1.1))) with
        | true =>
          .ret ((()),t10_1)
        | false =>
          L116_0 N n_L116_0 x (IntKind.i64.wrap (t10_1+(1:Int)))
      else
      bif t10_1==(4:Int) then
        match f134 (x.1,(x.2.1,())) with
        | .ret r_6 =>
          match r_6 with
          | true =>
            .ret ((()),t10_1)
          | false =>
            L116_0 N n_L116_0 x (IntKind.i64.wrap (t10_1+(1:Int)))
        | .pan p_7 =>
          .fail
        | .fail=>.fail
      else
      .fail
    | false =>
      .ret ((()),(0:Int)):Out (Unit×Int)):=by
  kernel_rfl
noncomputable def F116 (N:Nat) (x:((Int×(Int×(Bool×Unit)))×(Int×Unit))):Out (Unit×Int) :=
  L116_0 N N x (0:Int)
theorem e116 (N:Nat) (x:((Int×(Int×(Bool×Unit)))×(Int×Unit))):vfnQ Try.prog H0 (phi specs116) hints116 N (T116) Try.f34 false false (.prod (.prod (.int .i64) (.prod (.int .i64) (.prod .bool .unit))) (.prod (.int .i64) .unit)) (.int .i64) (()) x=F116 N x:=by
  kernel_rfl
noncomputable def f116 (x:((Int×(Int×(Bool×Unit)))×(Int×Unit))):Out Int:=dropG (F116 fuel x)
noncomputable def sp116:Spec:=⟨34,.call,(.prod (.prod (.int .i64) (.prod (.int .i64) (.prod .bool .unit))) (.prod (.int .i64) .unit)),(.int .i64),false,false,f116⟩
theorem c116:Contract Try.prog sp116:=contract_drop (H:=H0) () (fun w b h=>h) (fun M w=>trivial) (l:=specs116) (fun sp hs=>(by simp only [specs116,List.mem_cons,List.not_mem_nil,or_false] at hs;rcases hs with rfl|rfl|rfl|rfl<;>first|exact c128|exact c129|exact c130|exact c134)) Try.func34 rfl (allQ116 fun s sp hs=>.inl (by simp only [specsQ116,List.mem_cons,List.not_mem_nil,or_false] at hs;rcases hs with rfl|rfl|rfl|rfl<;>first|exact c128|exact c129|exact c130|exact c134)) hints116 fuel (e116 fuel)
end Go.V
namespace Go.V
open Go.Proofs
abbrev LLI:Type:=List (List Int)
abbrev SHT:Type:=LLI×List Int×Unit
abbrev LI:Ty:=.list (.int .i64)
abbrev SHTY:Ty:=.prod (.list LI) (.prod LI .unit)
noncomputable def f115r (s:NW) (x:Value×Int×Unit):Out (Int×Int×Bool×Unit):=bif isV x.1 s.1 then f115 (s.2,x.2) else .fail
noncomputable def sp115r (s:NW):Spec:=⟨33,.call,.prod .raw (.prod (.int .i64) .unit),(.prod (.int .i64) (.prod (.int .i64) (.prod .bool .unit))),false,false,f115r s⟩
theorem c115r (s:NW):MContract Try.prog HNow s (sp115r s):=raw_call (t:=.prod (.int .i64) .unit) (res:=.prod (.int .i64) (.prod (.int .i64) (.prod .bool .unit))) (f:=f115) c115 (fun M M' w v r h=>by
  obtain ⟨cs,e,c1,c2,e1,h1,c3,c4,e2,h2,c5,c6,e3,h3,h4⟩:=h
  exact ⟨cs,e,c1,c2,e1,h1,c3,c4,e2,h2,c5,c6,e3,h3,h4⟩) (fun M M' w vs x h=>h) s
def way113:List Nat:=[1,0,1,1,0,1,0,0,1,1,0,0]
noncomputable def at113 (l:List Nat):Code:=match codeAt (way113++l) (bodyOf Try.f62) with|some c=>c|none=>.skip
noncomputable def C113:Code:=.seq (at113 [0]) (.seq (at113 [1,0]) (.seq (at113 [1,1,0]) (at113 [1,1,1,0])))
noncomputable def same {α:Type} (a b:α):Bool:=open Classical in decide (a=b)
theorem same_eq {α:Type} {a b:α} (h:same a b=true):a=b:=by
  unfold same at h
  exact @of_decide_eq_true _ (Classical.propDecidable _) h
theorem same_refl {α:Type} (a:α):same a a=true:=by unfold same;exact @decide_eq_true _ (Classical.propDecidable _) rfl
noncomputable def kp (row:Int) (left:List Int) (yv v:Value) (lists:LLI) (sh:SHT) (pf:Value) (cands:List Int) (len i:Int) (row':Int) (left':List Int) (yv' v':Value) (lists':LLI) (sh':SHT) (pf':Value) (cands':List Int) (len' i':Int) (v'':Value):Bool :=
  same row' row && (same left' left && (same yv' yv && (same v' v && (same lists' lists && (same sh' sh && (same pf' pf && (same cands' cands && (same len' len && (same i' i && same v'' v)))))))))
noncomputable def kpS (row:Int) (left:List Int) (yv v:Value) (lists:LLI) (sh:SHT) (pf:Value) (cands:List Int) (len i:Int) (s:NW) (st:St):Bool :=
  bif st.length==80 then match get st 0,get st 1,get st 2,get st 3,get st 4,get st 5,get st 6,get st 24,get st 25,get st 26 with
  | .d (.int .i64) row',.d (.list (.int .i64)) left',.ref .raw yv',.ref .raw v',.ref (.list (.list (.int .i64))) lists',.ref (.prod (.list (.list (.int .i64))) (.prod (.list (.int .i64)) .unit)) sh',.ref .raw pf',.d (.list (.int .i64)) cands',.d (.int .i64) len',.d (.int .i64) i' =>
    kp row left yv v lists sh pf cands len i row' left' yv' v' lists' sh' pf' cands' len' i' s.1
  | _,_,_,_,_,_,_,_,_,_=>false
  else false
noncomputable def k113 (row:Int) (left:List Int) (yv v:Value) (lists:LLI) (sh:SHT) (pf:Value) (cands:List Int) (len i:Int) (x:X) (s:NW) (st:St):Out (Option (List Int)×List Int) :=
  match x with
  | .normal=>(match get st 12 with
    | .arr (.int .i64) xs _=>bif kpS row left yv v lists sh pf cands len i s st then .ret (some xs,s.2) else .fail
    | _=>.fail)
  | .exit 1=>bif kpS row left yv v lists sh pf cands len i s st then .ret (none,s.2) else .fail
  | _=>.fail
def st113 (row:Int) (left:List Int) (yv v:Value) (lists:LLI) (sh:SHT) (pf:Value) (cands:List Int) (len i:Int):St :=
  [.d (.int .i64) row,.d (.list (.int .i64)) left,.ref .raw yv,.ref .raw v,.ref (.list (.list (.int .i64))) lists,.ref (.prod (.list (.list (.int .i64))) (.prod (.list (.int .i64)) .unit)) sh,.ref .raw pf]++List.replicate 17 .und++[.d (.list (.int .i64)) cands,.d (.int .i64) len,.d (.int .i64) i]++List.replicate 53 .und
noncomputable def vloopC {ρ:Type} (P:Program) [Inv P] (H:Hole) (Φ:Nat->List Spec) (hints:List (Nat×List Nat)) (N:Nat) (T:List (List Nat×HdH H)) (c:Code) (k:X->H.σ->St->Out ρ) (path:List Nat) (n:Nat) (s:H.σ) (st:St):Out ρ :=
  walkQ P H Φ hints N (fun c T k=>match c with
    | .loop b=>iterQ (fun k' s st=>vhq P H Φ hints N b (subL 0 T) k' s st) (maskOf hints b) k n s st
    | _=>.fail) path c T k
end Go.V
namespace Go.V
open Go.Proofs
noncomputable def specs113s:List Spec:=[sp114a,sp116]
noncomputable def specsQ113s (s:NW):List Spec:=[sp114a,(sp115r s),sp116]
def hints113s:List (Nat×List Nat):=[(9,[0,1,2,3,4,5,6,11,12,24,25,26,37,38,39])]
noncomputable def r113_13:Array Oper:=regAt 13 (bodyOf Try.f62)
noncomputable def D113_6:Nat->Option (Nat×(NW->St->Bool×Outs HNow)):=fun i=>match i with|3=>some (1,g113_6)|_=>none
theorem D113_6_ok:∀ i y,D113_6 i=some y->HandQ Try.prog HNow r113_6 i y.1 y.2:=by
  intro i y h
  unfold D113_6 at h
  split at h
  . cases h;exact store_ok
  . cases h
noncomputable def T113s:List (List Nat×HdH HNow):=[([1,0],⟨fun {ρ} k s st=>regQ Try.prog HNow (fun s=>phi (specsQ113s s)) hints113s D113_6 6 r113_6 k s st⟩),
  ([1,1,1,1,0,0,1,1,0,0,1,1,1,0],⟨fun {ρ} k s st=>regAnyQ Try.prog HNow (fun s=>phi (specsQ113s s)) hints113s 16 none 13 r113_13 k s st⟩)]
noncomputable def L113s_0 (N:Nat) (n_L113s_0:Nat) (row:Int) (left:(List Int)) (yv:Value) (v:Value) (lists:(List (List Int))) (sh:((List (List Int))×((List Int)×Unit))) (pf:Value) (cands:(List Int)) (i:Int) (len:Int) (now:(List Int)) (rest_3:(List Int)) (t39_4:Int):Out (Option (List Int)×List Int) :=
  vloopC Try.prog HNow (phi specs113s) hints113s N T113s C113 (k113 row left yv v lists sh pf cands len i) [1,1,1,1,0] n_L113s_0 ((v,((now.set (row).toNat (List.getD cands i.toNat (0:Int)))))) [.d (.int .i64) row,.d (.list (.int .i64)) left,.ref .raw yv,.ref .raw v,.ref (.list (.list (.int .i64))) lists,.ref (.prod (.list (.list (.int .i64))) (.prod (.list (.int .i64)) .unit)) sh,.ref .raw pf,.und,.und,.und,.und,.d (.int .i64) (List.getD cands i.toNat (0:Int)),.arr (.int .i64) rest_3 false,.und,.und,.und,.und,.und,.und,.und,.und,.und,.und,.und,.d (.list (.int .i64)) cands,.d (.int .i64) len,.d (.int .i64) i,.und,.und,.und,.und,.und,.und,.und,.und,.und,.und,.d (.list (.list (.int .i64))) sh.1,.d (.int .i64) (lenI sh.1),.d (.int .i64) t39_4,.und,.und,.und,.und,.und,.und,.und,.und,.und,.und,.und,.und,.und,.und,.und,.und,.und,.und,.und,.und,.und,.und,.und,.und,.und,.und,.und,.und,.und,.und,.und,.und,.und,.und,.und,.und,.und,.und,.und,.und]
theorem L113s_0_succ (N:Nat) (n_L113s_0:Nat) (row:Int) (left:(List Int)) (yv:Value) (v:Value) (lists:(List (List Int))) (sh:((List (List Int))×((List Int)×Unit))) (pf:Value) (cands:(List Int)) (i:Int) (len:Int) (now:(List Int)) (rest_3:(List Int)) (t39_4:Int):L113s_0 N  (n_L113s_0+1) row left yv v lists sh pf cands i len now rest_3 t39_4 =
    (
    match (decide (t39_4<(lenI sh.1))) with
    | true =>
      bif (inb t39_4 sh.1.length) then
        bif (inb row (List.getD sh.1 t39_4.toNat ([]:List Int)).length) then
          match ((List.getD (List.getD sh.1 t39_4.toNat ([]:List Int)) row.toNat (0:Int))==(List.getD cands i.toNat (0:Int))) with
          | true =>
            L113s_0 N n_L113s_0 row left yv v lists sh pf cands i len now rest_3 (IntKind.i64.wrap (t39_4+(1:Int)))
          | false =>
            bif (inb t39_4 rest_3.length) then
              bif (decide ((t39_4.toNat)<rest_3.length)) then
                bif (inb t39_4 rest_3.length) then
                  bif (decide ((t39_4.toNat)<rest_3.length)) then
                    bif (inb t39_4 (List.set rest_3 (t39_4.toNat) (IntKind.i64.wrap ((List.getD rest_3 (t39_4.toNat) (0:Int)) - (1:Int)))).length) then
                      bif (decide ((t39_4.toNat)<(List.set rest_3 (t39_4.toNat) (IntKind.i64.wrap ((List.getD rest_3 (t39_4.toNat) (0:Int)) - (1:Int)))).length)) then
                        match (decide ((List.getD (List.set rest_3 (t39_4.toNat) (IntKind.i64.wrap ((List.getD rest_3 (t39_4.toNat) (0:Int)) - (1:Int)))) (t39_4.toNat) (0:Int))<(0:Int))) with
                        | true =>
                          bif (kp row left yv v lists sh pf cands len i row left yv v lists sh pf cands len i v) then
                            .ret (((none:Option (List Int)),((now.set (row).toNat (List.getD cands i.toNat (0:Int))))))
                          else .fail
                        | false =>
                          match (f115r ((v,((now.set (row).toNat (List.getD cands i.toNat (0:Int))))))) (v,(row,())) with
                          | .ret r_5 =>
                            bif (inb row (List.getD sh.1 t39_4.toNat ([]:List Int)).length) then
                              match f116 (r_5,((List.getD (List.getD sh.1 t39_4.toNat ([]:List Int)) row.toNat (0:Int)),())) with
                              | .ret r_7 =>
                                match (r_7==(0:Int)) with
                                | true =>
                                  bif (kp row left yv v lists sh pf cands len i row left yv v lists sh pf cands len i v) then
                                    .ret (((none:Option (List Int)),((now.set (row).toNat (List.getD cands i.toNat (0:Int))))))
                                  else .fail
                                | false =>
                                  L113s_0 N n_L113s_0 row left yv v lists sh pf cands i len now (List.set rest_3 (t39_4.toNat) (IntKind.i64.wrap ((List.getD rest_3 (t39_4.toNat) (0:Int)) - (1:Int)))) (IntKind.i64.wrap (t39_4+(1:Int)))
                              | .pan p_8 =>
                                .fail
                              | .fail=>.fail
                            else .fail
                          | .pan p_6 =>
                            bif (inb row (List.getD sh.1 t39_4.toNat ([]:List Int)).length) then
                              .fail
                            else .fail
                          | .fail=>.fail
                      else .fail
                    else .fail
                  else .fail
                else .fail
              else .fail
            else .fail
        else .fail
      else .fail
    | false =>
      bif (kp row left yv v lists sh pf cands len i row left yv v lists sh pf cands len i v) then
        .ret ((some rest_3,((now.set (row).toNat (List.getD cands i.toNat (0:Int))))))
      else .fail:Out (Option (List Int)×List Int)):=by
  kernel_rfl
noncomputable def S113 (N:Nat) (row:Int) (left:(List Int)) (yv:Value) (v:Value) (lists:(List (List Int))) (sh:((List (List Int))×((List Int)×Unit))) (pf:Value) (cands:(List Int)) (len:Int) (i:Int) (now:List Int):Out (Option (List Int)×List Int) :=
  bif (inb i cands.length) then
    bif (isV v v && inb row now.length) then
      match f114 (left,()) with
      | .ret r_1 =>
        L113s_0 N N row left yv v lists sh pf cands i len now r_1 (0:Int)
      | .pan p_2 =>
        .pan p_2
      | .fail=>.fail
    else .fail
  else .fail
theorem s113 (N:Nat) (row:Int) (left:(List Int)) (yv:Value) (v:Value) (lists:(List (List Int))) (sh:((List (List Int))×((List Int)×Unit))) (pf:Value) (cands:(List Int)) (len:Int) (i:Int) (now:List Int):vhq Try.prog HNow (phi specs113s) hints113s N C113 T113s (k113 row left yv v lists sh pf cands len i) (v,now) (st113 row left yv v lists sh pf cands len i)=S113 N row left yv v lists sh pf cands len i now:=by
  kernel_rfl
end Go.V
namespace Go.V
open Go.Proofs
open Go.RowKit (Below)
noncomputable def sortC (xs:List Int):List Int:=Lib.compact (xs.mergeSort fun x y=>decide (x<=y))
theorem putRow_block {w:World} {g k:Nat} {d:Array Int} {n:Nat} (hk:k≠g):(Sort.putRow (Value.int .i64) (Sort.ahead w n) g 0 d).heap[k]? = w.heap[k]? := by
  unfold Sort.putRow Sort.mapBlock Sort.ahead
  simp only [Array.getElem?_modify]
  rw [if_neg (Ne.symm hk)]
theorem grow_block {w:World} {os:Array Obj} {k:Nat} (hk:k<w.heap.size):(Sort.grow w os).heap[k]? = w.heap[k]? := by
  unfold Sort.grow
  simp only [Array.getElem?_append]
  rw [if_pos hk]
theorem own_holds {M:Mut} {w:World} {g cap:Nat} {xs:List Int} {cells:Array Value} {T:TypeId} (hrep:RepC M w (.list (.int .i64)) [.slice (some ⟨g,0,none⟩) xs.length cap] xs) (hh:w.heap[g]? = some (.cells cells T (0,0))):Sort.Holds (Value.int .i64) w g 0 xs.toArray:=by
  intro j hj
  have hj:j<xs.length:=by simpa using hj
  obtain ⟨ad,cp,e1,e2,e3⟩:=hrep
  simp only [List.cons.injEq,Value.slice.injEq,and_true] at e1
  have e1:=e1.1
  subst e1
  obtain ⟨b,o,ec,f1,f2,f3,f4⟩:=e3 j hj
  simp only [Option.some.injEq,Addr.mk.injEq,and_true] at f1
  obtain ⟨rfl,rfl⟩:=f1
  have f4:ec=[.int .i64 xs[j]]:=f4
  subst f4
  have:=(f3 0 (by simp)).1
  refine ⟨?_,?_⟩
  . have e:xs.toArray[j]! = xs[j]:=by rw [getElem!_pos _ j (by simpa using hj)];simp
    rw [e]
    have this:w.cell? ⟨g,0+j * 1+0,none⟩=some (.int .i64 xs[j]):=this
    rw [Nat.mul_one,Nat.add_zero] at this
    exact this
  . unfold World.frozen?
    simp [hh]
theorem rep_holds {M:Mut} {w:World} {g cap:Nat} {xs:List Int} (hh:Sort.Holds (Value.int .i64) w g 0 xs.toArray) (hc:xs.length<=cap) (hM:∀ o,¬ M g o):RepC M w (.list (.int .i64)) [.slice (some ⟨g,0,none⟩) xs.length cap] xs:=by
  refine ⟨some ⟨g,0,none⟩,cap,rfl,hc,fun i hi=>⟨g,0,[.int .i64 xs[i]],rfl,rfl,fun j hj=>?_,rfl⟩⟩
  have hi:i<List.length (α:=Int) xs:=hi
  have hj:j=0:=by simpa using hj
  subst hj
  have:=(hh i (by simpa using hi)).1
  have e:xs.toArray[i]! = List.get (α:=Int) xs ⟨i,hi⟩:=by rw [getElem!_pos _ i (by simpa using hi)];simp
  rw [e] at this
  refine ⟨?_,hM _⟩
  show w.cell? ⟨g,0+i * 1+0,none⟩=some (.int .i64 (List.get (α:=Int) xs ⟨i,hi⟩))
  rw [Nat.mul_one,Nat.add_zero]
  exact this
theorem compact_len (zs:List Int):(Lib.compact zs).length<=zs.length:=by
  unfold Lib.compact Lib.compactUpTo
  rw [List.length_map]
  refine Nat.le_trans (List.length_filter_le _ _) ?_
  simp
theorem sort_calls {M:Mut} {w:World} {v:Value} {xs:List Int} (hrep:RepC M w (.list (.int .i64)) [v] xs) (hown:OwnAt M w 1 v xs.length) (hl:xs.length<1000000000) :
    Calls Try.prog 59 #[v] w fun e w1=>(∃ u,e = .returned u)/\Fr (fun k=>k<w.heap.size/\ownB v≠some k) w w1/\Calls Try.prog 60 #[v] w1 fun e w2=>∃ u,e = .returned u/\Fr (fun k=>k<w.heap.size/\ownB v≠some k) w w2/\RepC (fun b o=>M b o/\ownB v≠some b) w2 (.list (.int .i64)) [u] (sortC xs):=by
  rcases hown with ⟨rfl,h0⟩|⟨g,cap,cells,T,rfl,hh,hcap,_,hsz,_⟩
  . have hx:xs=[]:=List.eq_nil_of_length_eq_zero h0
    subst hx
    have h74:Calls Try.prog 59 #[.slice none 0 0] w fun e w'=>e = .returned (.tuple #[])/\w'=w:=Try.slices_Sort_int_none none 0 w
    refine h74.mono ?_
    rintro e w1 ⟨rfl,rfl⟩
    refine ⟨⟨_,rfl⟩,Fr.refl _ _,(Try.slices_Compact_int_empty none 0 w1).mono ?_⟩
    rintro e w2 ⟨rfl,rfl⟩
    have hz:sortC []=[]:=by unfold sortC Lib.compact Lib.compactUpTo;simp
    rw [hz]
    exact ⟨_,rfl,Fr.refl _ _,RepC.list_nil _⟩
  . have hg:g<w.heap.size:=(Array.getElem?_eq_some_iff.1 hh).1
    have hH:=own_holds hrep hh
    have h74:=Try.slices_Sort_int g 0 cap xs w hH hg (by omega)
    refine h74.mono ?_
    rintro e w1 ⟨rfl,n,os,rfl⟩
    obtain ⟨ys,hys⟩:∃ ys,ys=xs.mergeSort fun x y=>decide (x<=y):=⟨_,rfl⟩
    rw [<- hys]
    have hyl:ys.length=xs.length:=by rw [hys,List.length_mergeSort]
    obtain ⟨w0,hw0⟩:∃ w0,w0=Sort.putRow (Value.int .i64) (Sort.ahead w n) g 0 ys.toArray:=⟨_,rfl⟩
    rw [<- hw0]
    have hs0:w0.heap.size=w.heap.size:=by rw [hw0,Sort.size_putRow];rfl
    have hH0:Sort.Holds (Value.int .i64) w0 g 0 ys.toArray:=by rw [hw0];exact Sort.holds_putRow _ _ _ _ _ _ (Sort.holds_ahead _ _ n _ _ _ hH) (by simp [hyl])
    obtain ⟨w1,hw1⟩:∃ w1,w1=Sort.grow w0 os:=⟨_,rfl⟩
    rw [<- hw1]
    have hb1:∀ k,k<w.heap.size->w1.heap[k]? = w0.heap[k]? := fun k hk=>by rw [hw1];exact grow_block (by omega)
    have hH1:Sort.Holds (Value.int .i64) w1 g 0 ys.toArray:=fun j hj=>by
      obtain ⟨h1,h2⟩:=hH0 j hj
      refine ⟨(World.cell?_of_block (a:=⟨g,0+j,none⟩) (hb1 g hg)).trans h1,?_⟩
      unfold World.frozen? at h2 ⊢
      rw [show w1.heap[(⟨g,0+j,none⟩:Addr).block]? = w0.heap[g]? from hb1 g hg]
      exact h2
    have hs1:w.heap.size<=w1.heap.size:=by rw [hw1,Sort.size_grow];omega
    have hf1:Fr (fun k=>k<w.heap.size/\ownB (.slice (some ⟨g,0,none⟩) xs.length cap)≠some k) w w1:=by
      refine ⟨by rw [hw1,hw0];rfl,by rw [hw1,hw0];rfl,by rw [hw1,hw0];rfl,hs1,fun k hk=>?_⟩
      rw [hb1 k hk.1,hw0,putRow_block]
      exact fun e=>hk.2 (by rw [e];rfl)
    refine ⟨⟨_,rfl⟩,hf1,?_⟩
    have h75:=Try.slices_Compact_int g 0 cap ys w1 hH1 (by omega) (by omega)
    rw [hyl] at h75
    refine h75.mono ?_
    rintro e w2 ⟨rfl,q,rfl⟩
    have hcl:=compact_len ys
    obtain ⟨zs,hzs⟩:∃ zs,zs=Lib.compact ys:=⟨_,rfl⟩
    rw [<- hzs] at hcl ⊢
    obtain ⟨w2,hw2⟩:∃ w2,w2=Sort.putRow (Value.int .i64) (Sort.ahead w1 q) g 0 (zs++List.replicate (xs.length - zs.length) 0).toArray:=⟨_,rfl⟩
    rw [<- hw2]
    have hH2:Sort.Holds (Value.int .i64) w2 g 0 (zs++List.replicate (xs.length - zs.length) 0).toArray:=by rw [hw2];exact Sort.holds_putRow _ _ _ _ _ _ (Sort.holds_ahead _ _ q _ _ _ hH1) (by simp;omega)
    have hH3:Sort.Holds (Value.int .i64) w2 g 0 zs.toArray:=fun j hj=>by
      have hj:j<zs.length:=by simpa using hj
      obtain ⟨h1,h2⟩:=hH2 j (by simp;omega)
      refine ⟨?_,h2⟩
      have e:(zs++List.replicate (xs.length - zs.length) 0).toArray[j]! = zs.toArray[j]! := by
        rw [getElem!_pos _ j (by simp;omega),getElem!_pos _ j (by simpa using hj)]
        simp [List.getElem_append_left hj]
      rw [h1,e]
    refine ⟨_,rfl,hf1.trans ⟨by rw [hw2];rfl,by rw [hw2];rfl,by rw [hw2];rfl,by rw [hw2,Sort.size_putRow];exact Nat.le_refl _,fun k hk=>?_⟩,?_⟩
    . rw [hw2,putRow_block]
      exact fun e=>hk.2 (by rw [e];rfl)
    . have hz:sortC xs=zs:=by unfold sortC;rw [hzs,hys]
      rw [hz]
      exact rep_holds hH3 (by omega) fun o h=>h.2 rfl
theorem ex_call1 {g:Nat} (hent:enters Try.prog g=true) {a:Act} {w:World} {o:Oper} {p:Nat} {v:Value} (ho:o.op = .call { callee:=.value (.func g),args := #[.tmp p],argTypes := #[22] }) (h1:tm a p=v):(execOp a.eval o).run Try.prog w = .ok (.enter g #[v]) w:=by
  have e1:a.eval (.tmp p)=v:=h1
  have e4:a.eval (.func g) = .func (.func g) #[] #[]:=rfl
  have e3:=enters_run (P:=Try.prog) (g:=g) hent #[v] w
  simp [execOp,ho,resolve,e1,e4,Deferred.ofValue,invoke,e3]
noncomputable def r84_13:Array Oper:=regAt 13 (bodyOf Try.f38)
noncomputable def r84_14:Array Oper:=regAt 14 (bodyOf Try.f38)
noncomputable def tail84:Code:=.seq (.region 13 r84_13 false) (.seq (.region 14 r84_14 false) .ret)
theorem info84_13:r84_13.toList.map opInfo=[(some 40,.move (.tmp 6),none),(some 41,.call { callee:=.value (.func 59),args := #[.tmp 40],argTypes := #[22] },none)]:=by kernel_rfl
theorem info84_14:r84_14.toList.map opInfo=[(some 42,.move (.tmp 6),none),(some 43,.call { callee:=.value (.func 60),args := #[.tmp 42],argTypes := #[22] },none),(some 44,.move (.tmp 9),none),(some 4,.assign (.tmp 43),none),(some 5,.assign (.tmp 44),none)]:=by kernel_rfl
def tail84S (r:List Int) (o:Int):St:=((List.replicate 45 S.und).set 4 (.d (.list (.int .i64)) r)).set 5 (.d (.int .i64) o)
theorem tail84_wp {F:Nat->Prop} {M0:Base} {w0:World} {n:Nat} (hz:Zf F M0) (hpl:∀ j v,M0.pin j=some v->False) {Q:Exit->Act->World->Prop} {st:St} {act:Act} {w:World} {M:Mut} {s:H0.σ}
    (hfr:Fr F w0 w) (hG:GoodH H0 F M0 s M st act w) (hlen:st.length=45) {v:Value} {xs:List Int} {o:Int} (hv:tm act 6=v) (ho:tm act 9 = .int .i64 o) (hrep:RepC M w (.list (.int .i64)) [v] xs) (hown:OwnAt M w 1 v xs.length) (hl:xs.length<1000000000)
    (hgF:∀ g,ownB v=some g->¬ F g) (hQ:∀ a' w',ConcH H0 F M0 w0 s (tail84S (sortC xs) o) a' w'->Q .ret a' w'):tail84.wpIn (fen none) n Try.prog Q act w:=by
  have hg:=hG.2.1
  have hsz:act.tmps.size=45:=hg.size.trans hlen
  have hrA:r84_13.size=2:=by have:=congrArg List.length info84_13;simpa using this
  have hrB:r84_14.size=5:=by have:=congrArg List.length info84_14;simpa using this
  obtain ⟨o0,i0,d0,q0,g0⟩:=infoAt info84_13 (i:=0) rfl
  obtain ⟨o1,i1',d1,q1,g1⟩:=infoAt info84_13 (i:=1) rfl
  obtain ⟨o2,i2',d2,q2,g2⟩:=infoAt info84_14 (i:=0) rfl
  obtain ⟨o3,i3,d3,q3,g3⟩:=infoAt info84_14 (i:=1) rfl
  obtain ⟨o4,i4,d4,q4,g4⟩:=infoAt info84_14 (i:=2) rfl
  obtain ⟨o5,i5,d5,q5,g5⟩:=infoAt info84_14 (i:=3) rfl
  obtain ⟨o6,i6,d6,q6,g6⟩:=infoAt info84_14 (i:=4) rfl
  simp only at d0 q0 g0 d1 q1 g1 d2 q2 g2 d3 q3 g3 d4 q4 g4 d5 q5 g5 d6 q6 g6
  refine wpIn_seq (wpIn_region ?_)
  rw [hrA]
  show wpOpsIn (fen none) n Try.prog r84_13 _ [0,1] act w
  rw [wpOpsIn_cons]
  refine opn_value i0 (wanted_none g0) (fun c h=>by rw [q0] at h;cases h) (ex_move q0) ?_
  rw [d0,hv,wpOpsIn_cons]
  refine opn_enter i1' (wanted_none g1) (fun c h=>by rw [q1] at h;cases h) (ex_call1 (by kernel_rfl) q1 (tm_put_same (by omega))) ((sort_calls hrep hown hl).mono ?_)
  rintro e w1 ⟨⟨u,rfl⟩,hf1,h75⟩
  refine ⟨u,rfl,?_⟩
  rw [d1]
  show (Code.seq (.region 14 r84_14 false) .ret).wpIn (fen none) n Try.prog Q ((act.put (some 40) v).put (some 41) u) w1
  refine wpIn_seq (wpIn_region ?_)
  rw [hrB]
  show wpOpsIn (fen none) n Try.prog r84_14 _ [0,1,2,3,4] ((act.put (some 40) v).put (some 41) u) w1
  rw [wpOpsIn_cons]
  refine opn_value i2' (wanted_none g2) (fun c h=>by rw [q2] at h;cases h) (ex_move q2) ?_
  rw [tm_put_other (by omega),tm_put_other (by omega),hv,d2,wpOpsIn_cons]
  refine opn_enter i3 (wanted_none g3) (fun c h=>by rw [q3] at h;cases h) (ex_call1 (by kernel_rfl) q3 (tm_put_same (by rw [size_put,size_put];omega))) (h75.mono ?_)
  rintro e w2 ⟨r,rfl,hf2,hrep2⟩
  refine ⟨r,rfl,?_⟩
  rw [d3,wpOpsIn_cons]
  refine opn_value i4 (wanted_none g4) (fun c h=>by rw [q4] at h;cases h) (ex_move q4) ?_
  rw [tm_put_other (by omega),tm_put_other (by omega),tm_put_other (by omega),tm_put_other (by omega),ho,d4,wpOpsIn_cons]
  refine opn_value i5 (wanted_none g5) (fun c h=>by rw [q5] at h;cases h) (ex_assign q5) ?_
  rw [tm_put_other (by omega),tm_put_same (by simp only [size_put];omega),d5,wpOpsIn_cons]
  refine opn_value i6 (wanted_none g6) (fun c h=>by rw [q6] at h;cases h) (ex_assign q6) ?_
  rw [tm_put_other (by omega),tm_put_same (by simp only [size_put];omega),d6]
  refine wpIn_ret (hQ _ _ ?_)
  obtain ⟨a',ha'⟩:∃ a',a'=((((((act.put (some 40) v).put (some 41) u).put (some 42) v).put (some 43) r).put (some 44) (.int .i64 o)).put (some 4) r).put (some 5) (.int .i64 o):=⟨_,rfl⟩
  rw [<- ha']
  have hsz':a'.tmps.size=45:=by rw [ha'];simp only [size_put];exact hsz
  have t6:tm a' 4=r:=by rw [ha',tm_put_other (by omega),tm_put_same (by simp only [size_put];omega)]
  have t7:tm a' 5 = .int .i64 o:=by rw [ha',tm_put_same (by simp only [size_put];omega)]
  have hFg:∀ b,F b->ownB v≠some b:=fun b hb e=>hgF b e hb
  have hb:∀ k,k<w.heap.size->ownB v≠some k->w2.heap[k]? = w.heap[k]? := fun k h1 h2=>hf2.block k ⟨h1,h2⟩
  have hlt6:4<(List.replicate 45 S.und).length:=by simp
  have g6:get (tail84S (sortC xs) o) 4 = .d (.list (.int .i64)) (sortC xs):=by
    unfold tail84S
    rw [get_setne (by omega),get_set _ _ _ _ hlt6,if_pos rfl]
  have g7:get (tail84S (sortC xs) o) 5 = .d (.int .i64) o:=by
    unfold tail84S
    rw [get_set _ _ _ _ (by simp),if_pos rfl]
  have gu:∀ i,i≠4->i≠5->get (tail84S (sortC xs) o) i = .und:=fun i h1 h2=>by
    unfold tail84S
    rw [get_setne h2,get_setne h1,get_repl]
  have hno:∀ i k b,¬ owns (tail84S (sortC xs) o) a' w2 i k b:=fun i k b ho=>by
    have key:ownS (get (tail84S (sortC xs) o) i)=false:=by
      by_cases e6:i=4
      . subst e6;rw [g6];rfl
      . by_cases e7:i=5
        . subst e7;rw [g7];rfl
        . rw [gu i e6 e7];rfl
    cases k with
    | none=>rw [ho.1] at key;cases key
    | some k=>obtain ⟨cs,_,_,_,e,_⟩:=ho;rw [e] at key;cases key
  have hdf:a'.defers=act.defers:=by rw [ha'];simp only [defers_put]
  have hKD:KeepsD w w2:=fun D c e=>by
    rw [hb D (Array.getElem?_eq_some_iff.1 e).1 fun hv=>?_]
    . exact e
    . rcases hown with ⟨rfl,_⟩|⟨g,cap,cells,T,rfl,hh,_⟩
      . cases hv
      . cases hv;rw [hh] at e;cases e
  refine ⟨hfr.trans ⟨hf2.os,hf2.tape,hf2.output,hf2.size,fun k hk=>hb k (hg.room k hk) (hFg k hk)⟩,fun b o=>M b o/\ownB v≠some b,trivial,?_,fun b h=>h.elim⟩
  refine ⟨by rw [hdf];exact hg.defers.keep hKD,by rw [hsz'];unfold tail84S;simp,fun b h=>Nat.lt_of_lt_of_le (hg.room b h) hf2.size,hg.base,fun b o h=>⟨hg.up b o h,hFg b (hg.base b o h)⟩,fun b o h=>Nat.lt_of_lt_of_le (hg.lt b o h.1) hf2.size,fun b o hF h=>hg.down b o hF h.1,
    fun i=>?_,fun i k j l b h=>absurd h (hno i k b),fun i k b h=>absurd h (hno i k b),fun b o u h1 h2=>?_,fun j v hj=>(hpl j v hj).elim,hg.dm⟩
  . by_cases e6:i=4
    . subst e6
      rw [g6,t6]
      exact ⟨[r],rfl,hrep2⟩
    . by_cases e7:i=5
      . subst e7;rw [g7,t7];exact ⟨_,rfl,rfl⟩
      . rw [gu i e6 e7];trivial
  . obtain ⟨k1,k2⟩:=hg.keep b o u h1 h2
    have hFb:=hz b (cell_lt h1)
    exact ⟨(World.cell?_of_block (a:=⟨b,o,none⟩) (hb b (hg.room b hFb) (hFg b hFb))).trans k1,fun h=>k2 h.1⟩
noncomputable def E84 {ρ:Type} (k:X->H0.σ->St->Out ρ) (s:H0.σ) (st:St):Out ρ :=
  match get st 6 with
  | .own (.int .i64) xs _=>(match get st 9 with
    | .d (.int .i64) o=>bif st.length==45 && decide (List.length (α:=Int) xs<1000000000) then k .ret s (tail84S (sortC xs) o) else .fail
    | _=>.fail)
  | _=>.fail
theorem E84_ok:EOKZ Try.prog H0 tail84 (fun {ρ} k s st=>E84 k s st):=by
  intro ρ fin hf hr F M0 w0 n hz hI hpl k Q hQ s st a w hc h
  have h:E84 k s st=fin:=h
  unfold E84 at h
  split at h
  rotate_left
  . exact absurd h.symm hf
  rename_i xs hot e8
  split at h
  rotate_left
  . exact absurd h.symm hf
  rename_i o e9
  cases hcd:(st.length==45 && decide (List.length (α:=Int) xs<1000000000)) with
  | false=>rw [hcd] at h;exact absurd h.symm hf
  | true =>
  rw [hcd] at h
  simp only [Bool.and_eq_true,beq_iff_eq,decide_eq_true_eq] at hcd
  obtain ⟨hlen,hl⟩:=hcd
  obtain ⟨hfr,M,hG⟩:=hc
  have s8:=hG.2.1.slot 6
  rw [e8] at s8
  have s9:=hG.2.1.slot 9
  rw [e9] at s9
  obtain ⟨cs,t9,q9⟩:=s9
  have q9:cs=[.int .i64 o]:=q9
  subst q9
  exact tail84_wp hz hpl hfr hG hlen rfl t9 s8.1 s8.2 hl (fun g hg=>hG.2.1.new 6 none g ⟨by rw [e8];rfl,hg⟩) fun a' w' hc'=>hQ .ret s _ a' w' hc' h
end Go.V
namespace Go.V
open Go.Proofs
noncomputable def specs84:List Spec:=[sp107,sp108,sp109]
def hints84:List (Nat×List Nat):=[(3,[1,2,6,12,13,14]),(10,[6,9])]
noncomputable def specsQ84 (s:Unit):List Spec:=[sp107,sp108,sp109]
noncomputable def r84_4:Array Oper:=regAt 4 (bodyOf Try.f38)
noncomputable def D84_4:Nat->Option (Nat×(Unit->St->Bool×Outs H0)):=fun _=>none
theorem D84_4_ok:∀ i y,D84_4 i=some y->HandQ Try.prog H0 r84_4 i y.1 y.2:=fun _ _ h=>by cases h
noncomputable def r84_11:Array Oper:=regAt 11 (bodyOf Try.f38)
noncomputable def D84_11:Nat->Option (Nat×(Unit->St->Bool×Outs H0)):=fun _=>none
theorem D84_11_ok:∀ i y,D84_11 i=some y->HandQ Try.prog H0 r84_11 i y.1 y.2:=fun _ _ h=>by cases h
noncomputable def T84:List (List Nat×HdH H0):=[([1,1,0,1,0,0,1,1,0,0,0],⟨fun {ρ} k s st=>regQ Try.prog H0 (fun s=>phi (specsQ84 s)) hints84 D84_4 4 r84_4 k s st⟩),
  ([1,1,1,1,1,0,0,0,1,0],⟨fun {ρ} k s st=>regQ Try.prog H0 (fun s=>phi (specsQ84 s)) hints84 D84_11 11 r84_11 k s st⟩),
  ([1,1,1,1,1,1,1],⟨fun {ρ} k s st=>E84 k s st⟩)]
theorem allQ84 (h:∀ s,∀ sp∈specsQ84 s,CallH Try.prog H0 s sp):AllZ Try.prog H0 (bodyOf Try.f38) (T84):=(allZ_consH (c' := .region 4 r84_4 false) (by kernel_rfl) (regQ_ok (fun s g sp hs=>h s sp (List.mem_filter.1 hs).1) hints84 D84_4_ok) (allZ_consH (c' := .region 11 r84_11 false) (by kernel_rfl) (regQ_ok (fun s g sp hs=>h s sp (List.mem_filter.1 hs).1) hints84 D84_11_ok) (allZ_cons (c':=tail84) (by kernel_rfl) E84_ok allZ_nil)))
noncomputable def L84_1 (N:Nat) (n_L84_1:Nat) (out_10:(List Int)) (other_11:Int):Out (Unit×((List Int)×(Int×Unit))) :=
  vloopQ Try.prog H0 (phi specs84) hints84 N (T84) Try.f38 true false (.prod (.list (.int .i64)) (.prod (.int .i64) .unit)) [1,1,1,1,1,0,0] n_L84_1 (()) [.und,.und,.und,.und,.und,.und,.own (.int .i64) out_10 false,.und,.und,.d (.int .i64) other_11,.und,.und,.und,.und,.und,.und,.und,.und,.und,.und,.und,.und,.und,.und,.und,.und,.und,.und,.und,.und,.und,.und,.und,.und,.und,.und,.und,.und,.und,.und,.und,.und,.und,.und,.und]
noncomputable def L84_0 (N:Nat) (n_L84_0:Nat) (x:(((List (List Int))×((List Int)×Unit))×(Int×Unit))) (r_1:(List Int)) (out_3:(List Int)) (t12_4:(List Int)) (t14_5:Int):Out (Unit×((List Int)×(Int×Unit))) :=
  vloopQ Try.prog H0 (phi specs84) hints84 N (T84) Try.f38 true false (.prod (.list (.int .i64)) (.prod (.int .i64) .unit)) [1,1,0,1,0] n_L84_0 (()) [.und,.d (.int .i64) x.2.1,.box [.d (.list (.list (.int .i64))) x.1.1,.d (.list (.int .i64)) x.1.2.1],.und,.und,.und,.own (.int .i64) out_3 false,.und,.und,.und,.und,.und,.own (.int .i64) t12_4 false,.d (.int .i64) (lenI r_1),.d (.int .i64) t14_5,.und,.und,.und,.und,.und,.und,.und,.und,.und,.und,.und,.und,.und,.und,.und,.und,.und,.und,.und,.und,.und,.und,.und,.und,.und,.und,.und,.und,.und,.und]
theorem L84_1_succ (N:Nat) (n_L84_1:Nat) (out_10:(List Int)) (other_11:Int):L84_1 N  (n_L84_1+1) out_10 other_11 =
    (
    match f109 (out_10,(other_11,())) with
    | .ret r_12 =>
      match r_12 with
      | true =>
        L84_1 N n_L84_1 out_10 (IntKind.i64.wrap (other_11+(1:Int)))
      | false =>
        bif (fits out_10 ([other_11]:List Int)) then
          bif (decide (((out_10++([other_11]:List Int)):List Int).length<1000000000)) then
            .ret ((()),(((sortC (out_10++([other_11]:List Int)))),(other_11,())))
          else .fail
        else .fail
    | .pan p_13 =>
      .pan p_13
    | .fail=>.fail:Out (Unit×((List Int)×(Int×Unit)))):=by
  kernel_rfl
theorem L84_0_succ (N:Nat) (n_L84_0:Nat) (x:(((List (List Int))×((List Int)×Unit))×(Int×Unit))) (r_1:(List Int)) (out_3:(List Int)) (t12_4:(List Int)) (t14_5:Int):L84_0 N  (n_L84_0+1) x r_1 out_3 t12_4 t14_5 =
    (
    match (decide (t14_5<(lenI r_1))) with
    | true =>
      bif (inb t14_5 t12_4.length) then
        match f108 ((List.getD t12_4 t14_5.toNat (0:Int)),()) with
        | .ret r_6 =>
          bif (fits out_3 r_6) then
            L84_0 N n_L84_0 x r_1 (out_3++r_6) t12_4 (IntKind.i64.wrap (t14_5+(1:Int)))
          else .fail
        | .pan p_7 =>
          .pan p_7
        | .fail=>.fail
      else .fail
    | false =>
      match (decide (x.2.1 > (0:Int))) with
      | true =>
        match f107 (x.1,((IntKind.i64.wrap (x.2.1 - (1:Int))),())) with
        | .ret r_8 =>
          bif (fits out_3 r_8) then
            L84_1 N N (out_3++r_8) (-999:Int)
          else .fail
        | .pan p_9 =>
          .pan p_9
        | .fail=>.fail
      | false =>
        L84_1 N N out_3 (-999:Int):Out (Unit×((List Int)×(Int×Unit)))):=by
  kernel_rfl
noncomputable def F84 (N:Nat) (x:(((List (List Int))×((List Int)×Unit))×(Int×Unit))):Out (Unit×((List Int)×(Int×Unit))) :=
  match f107 (x.1,(x.2.1,())) with
  | .ret r_1 =>
    L84_0 N N x r_1 ([]:List Int) r_1 (0:Int)
  | .pan p_2 =>
    .pan p_2
  | .fail=>.fail
theorem e84 (N:Nat) (x:(((List (List Int))×((List Int)×Unit))×(Int×Unit))):vfnQ Try.prog H0 (phi specs84) hints84 N (T84) Try.f38 true false (.prod (.prod (.list (.list (.int .i64))) (.prod (.list (.int .i64)) .unit)) (.prod (.int .i64) .unit)) (.prod (.list (.int .i64)) (.prod (.int .i64) .unit)) (()) x=F84 N x:=by
  kernel_rfl
noncomputable def f84 (x:(((List (List Int))×((List Int)×Unit))×(Int×Unit))):Out ((List Int)×(Int×Unit)):=dropG (F84 fuel x)
noncomputable def sp84:Spec:=⟨38,.call,(.prod (.prod (.list (.list (.int .i64))) (.prod (.list (.int .i64)) .unit)) (.prod (.int .i64) .unit)),(.prod (.list (.int .i64)) (.prod (.int .i64) .unit)),true,false,f84⟩
theorem c84:Contract Try.prog sp84:=contract_dropZ (H:=H0) () (fun w b h=>h) (fun M w=>trivial) (l:=specs84) (fun sp hs=>(by simp only [specs84,List.mem_cons,List.not_mem_nil,or_false] at hs;rcases hs with rfl|rfl|rfl<;>first|exact c107|exact c108|exact c109)) Try.func38 rfl (allQ84 fun s sp hs=>.inl (by simp only [specsQ84,List.mem_cons,List.not_mem_nil,or_false] at hs;rcases hs with rfl|rfl|rfl<;>first|exact c107|exact c108|exact c109)) hints84 fuel (e84 fuel)
end Go.V
namespace Go.V
open Go.Proofs
theorem at113_eq:at113 [] = .seq (at113 [0]) (.seq (at113 [1,0]) (.seq (at113 [1,1,0]) (.seq (at113 [1,1,1,0]) (at113 [1,1,1,1])))):=by kernel_rfl
section
variable {P : Program} [Inv P] {H : Hole} {Φ : Nat → List Spec} {ρ : Type}
theorem chain_seq (hΦ:∀ g sp,sp∈Φ g->Contract P sp) (hm:P.follows .mixedOrders=true) (hints:List (Nat×List Nat)) (N:Nat) {fin:Out ρ} (hf:fin ≠ .fail) (hr:∀ p,fin ≠ .pan p) {c1 c2 c3:Code} {T:List (List Nat×HdH H)} (hT:AllQ P H (.seq c1 c2) T)
    (hT0:T≠[]) (hT1:hereL T=none) {F:Nat->Prop} {M0:Base} {w0:World} {n:Nat} (hI:∀ w,Fr F w0 w->Inv.I P w) (hpl:∀ j v,M0.pin j=some v->False) {k:X->H.σ->St->Out ρ} {Q:Exit->Act->World->Prop}
    (hQ:∀ x s st a w,x ≠ .normal->ConcH H F M0 w0 s st a w->k x s st=fin->Q x.exit' a w) (hnext:∀ s st a w,ConcH H F M0 w0 s st a w->vhq P H Φ hints N c2 (subL 1 T) k s st=fin->c3.wpIn (fen none) n P Q a w)
    {s:H.σ} {st:St} {a:Act} {w:World} (hc:ConcH H F M0 w0 s st a w) (h:vhq P H Φ hints N (.seq c1 c2) T k s st=fin):(Code.seq c1 c3).wpIn (fen none) n P Q a w:=by
  unfold vhq pickQ at h
  split at h
  . exact absurd rfl hT0
  rw [hT1] at h
  refine wpIn_seq (vhq_ok hΦ hm hints N hf hr c1 _ hT.seq.1 F M0 w0 n hI hpl _ _ ?_ s st a w hc h)
  intro x s st a w hc hx
  cases x with
  | normal=>exact hnext s st a w hc hx
  | exit i=>exact hQ (.exit i) s st a w (by simp) hc hx
  | ret=>exact hQ .ret s st a w (by simp) hc hx
end
theorem allQ113s:AllQ Try.prog HNow C113 T113s:=by
  have hΨ:∀ (s:NW) sp,sp∈specsQ113s s->CallH Try.prog HNow s sp:=fun s sp hs=>by
    simp only [specsQ113s,List.mem_cons,List.not_mem_nil,or_false] at hs
    rcases hs with rfl|rfl|rfl
    . exact .inl c114a
    . exact .inr ⟨rfl,c115r s⟩
    . exact .inl c116
  exact allQ_cons (c' := .region 6 r113_6 false) (by kernel_rfl) (regQ_ok (fun s g sp hs=>hΨ s sp (List.mem_filter.1 hs).1) hints113s D113_6_ok)
    (allQ_cons (c' := .region 13 r113_13 true) (by kernel_rfl) (regAnyQ_ok mixed (fun s g sp hs=>hΨ s sp (List.mem_filter.1 hs).1) hints113s (fun _ h=>by cases h)) allQ_nil)
theorem all113s:∀ sp∈specs113s,Contract Try.prog sp:=fun sp hs=>by
  simp only [specs113s,List.mem_cons,List.not_mem_nil,or_false] at hs
  rcases hs with rfl|rfl
  . exact c114a
  . exact c116
theorem seg113_wp {row:Int} {left:List Int} {yv v:Value} {lists:LLI} {sh:SHT} {pf:Value} {cands:List Int} {len i:Int} {now:List Int} {r:Option (List Int)×List Int} (N:Nat) (h:S113 N row left yv v lists sh pf cands len i now = .ret r)
    {F:Nat->Prop} {M0:Base} {w0:World} {n:Nat} (hI:∀ w,Fr F w0 w->Inv.I Try.prog w) (hpl:∀ j v,M0.pin j=some v->False) {Q:Exit->Act->World->Prop} {a:Act} {w:World} (hc:ConcH HNow F M0 w0 (v,now) (st113 row left yv v lists sh pf cands len i) a w)
    (hN:∀ (s:NW) st a' w' xs f,r=(some xs,s.2)->ConcH HNow F M0 w0 s st a' w'->get st 12 = .arr (.int .i64) xs f->kpS row left yv v lists sh pf cands len i s st=true->(at113 [1,1,1,1]).wpIn (fen none) n Try.prog Q a' w')
    (hE:∀ (s:NW) st a' w',r=(none,s.2)->ConcH HNow F M0 w0 s st a' w'->kpS row left yv v lists sh pf cands len i s st=true->Q (.exit 1) a' w'):(at113 []).wpIn (fen none) n Try.prog Q a w:=by
  have h0:=(s113 N row left yv v lists sh pf cands len i now).trans h
  have hf:(Out.ret r) ≠ .fail:=by simp
  have hr:∀ p,(Out.ret r) ≠ .pan p:=by simp
  have hQ:∀ (x:X) (s:HNow.σ) (st:St) (a':Act) (w':World),x ≠ .normal->ConcH HNow F M0 w0 s st a' w'->k113 row left yv v lists sh pf cands len i x s st = .ret r->Q x.exit' a' w':=by
    intro x s st a' w' hx hc' hk
    unfold k113 at hk
    split at hk
    . exact absurd rfl hx
    . cases hkp:kpS row left yv v lists sh pf cands len i s st with
      | false=>rw [hkp] at hk;cases hk
      | true=>rw [hkp] at hk;exact hE s st a' w' (by cases hk;rfl) hc' hkp
    . cases hk
  have hNn:∀ (s:HNow.σ) (st:St) (a':Act) (w':World),ConcH HNow F M0 w0 s st a' w'->k113 row left yv v lists sh pf cands len i .normal s st = .ret r->(at113 [1,1,1,1]).wpIn (fen none) n Try.prog Q a' w':=by
    intro s st a' w' hc' hk
    unfold k113 at hk
    dsimp only at hk
    split at hk
    . rename_i xs f e12
      cases hkp:kpS row left yv v lists sh pf cands len i s st with
      | false=>rw [hkp] at hk;cases hk
      | true=>rw [hkp] at hk;exact hN s st a' w' xs f (by cases hk;rfl) hc' e12 hkp
    . cases hk
  rw [at113_eq]
  have hT:=allQ113s
  unfold C113 at h0 hT
  refine chain_seq (phi_ok all113s) mixed hints113s N hf hr hT (by unfold T113s;simp) (by kernel_rfl) hI hpl hQ (fun s st a w hc h=>?_) hc h0
  refine chain_seq (phi_ok all113s) mixed hints113s N hf hr hT.seq.2 (by unfold T113s;simp [subL]) (by kernel_rfl) hI hpl hQ (fun s st a w hc h=>?_) hc h
  refine chain_seq (phi_ok all113s) mixed hints113s N hf hr hT.seq.2.seq.2 (by unfold T113s;simp [subL]) (by kernel_rfl) hI hpl hQ (fun s st a w hc h=>?_) hc h
  refine wpIn_seq (vhq_ok (phi_ok all113s) mixed hints113s N hf hr _ _ hT.seq.2.seq.2.seq.2 F M0 w0 n hI hpl _ _ ?_ s st a w hc h)
  intro x s st a w hc hx
  cases x with
  | normal=>exact hNn s st a w hc hx
  | exit i=>exact hQ (.exit i) s st a w (by simp) hc hx
  | ret=>exact hQ .ret s st a w (by simp) hc hx
end Go.V
namespace Go.V
open Go.RowKit (Below)
def IterStepB (B:Nat->Prop) (W W1 W2:World):Prop:=Fr (fun k=>k<W.heap.size/\¬ B k) W1 W2/\∀ (k:Nat) (ob:Obj),¬ B k->W1.heap[k]? = some ob->ob.isCells=true->W2.heap[k]? = some ob
section
variable {P : Program} [Inv P] {Φ : Nat → List Spec} {M0 : Base} {F : Nat → Prop} {w0 : World} {M : Mut} {st st' : St} {a : Act} {w : World} {o : Oper} {ρ : Type}
theorem Good.cellsB {B:Nat->Prop} (h:Good M0 F M st a w) (hs:NoSit st) {w':World} (hBM:∀ b,B b->∀ o,M b o) (hBo:∀ i k b,owns st a w i k b->¬ B b) (hsz:w.heap.size<=w'.heap.size) (hk:∀ (k:Nat) (ob:Obj),¬ B k->w.heap[k]? = some ob->ob.isCells=true->w'.heap[k]? = some ob)
    (hd:Marks M0.dm w' a.defers):Good M0 F M st a w':=by
  have hst:Stable M w M w':=fun b o v e hn=>by
    have hb:¬ B b:=fun hb=>hn (hBM b hb o)
    obtain ⟨ob,e1,e2⟩:=cells_of_cell e
    exact ⟨(World.cell?_of_block (a:=⟨b,o,none⟩) (by rw [hk b ob hb e1 e2,e1])).trans e,hn⟩
  have ho:∀ i k b,owns st a w i k b->w'.heap[b]? = w.heap[b]? := fun i k b ho=>by
    obtain ⟨ob,e1,e2⟩:=owns_cells h hs ho
    rw [hk b ob (hBo i k b ho) e1 e2,e1]
  have hk':∀ i b,owns st a w i none b->w'.heap[b]? = w.heap[b]? := fun i b h=>ho i none b h
  exact ⟨hd,h.size,fun b hb=>Nat.lt_of_lt_of_le (h.room b hb) hsz,h.base,h.up,fun b o hm=>Nat.lt_of_lt_of_le (h.lt b o hm) hsz,h.down,
    fun i=>SlotOK.keep hst (turn_world hk') rfl rfl (h.slot i) fun k b hb=>⟨ho i k b hb,fun _ h=>h⟩,
    fun i k j l b h1 h2=>h.one i k j l b (owns_world hk' h1) (owns_world hk' h2),fun i k b h1=>h.new i k b (owns_world hk' h1),h.keep.trans hst,h.pin,h.dm⟩
end
end Go.V
namespace Go.V
open Go.RowKit (Below)
def IterP (P:Program) [Inv P] (v:Value) (e:Ty) (ys:List e.den) (M:Mut) (w:World):Prop :=
  ∃ g fs pc,v = .func (.func g) fs pc/\enters P g=true /\
    ∀ (n l:Nat) (R:Nat->Prop) (J:(Nat->Prop)->Nat->Mut->World->Prop) (Jx:(Nat->Prop)->World->Prop) (W:World) (N0:Mut),
      Stable M w N0 W->w.heap.size<=W.heap.size->Inv.I P W->(∀ b o,N0 b o->b<W.heap.size)->(∀ b,R b->b<W.heap.size/\∀ ob,W.heap[b]? = some ob->ob.isCells=false) ->
      (∀ B i M1 W1,J B i M1 W1->Inv.I P W1)->(∀ B i M1 W1 W2,J B i M1 W1->IterStepB B W W1 W2->J B i M1 W2)->(∀ B W1 W2,Jx B W1->IterStepB B W W1 W2->Jx B W2) ->
      (∀ B i M1 W1 u y,J B i M1 W1->ys[i]? = some y->RepV M1 W1 e u y->∃ fn tmps assign body,(Instr.yield l #[u]).run P W1 = .ok (.round l fn tmps assign body) W1 /\
        RoundIn Fence.wide n P l fn tmps assign body W1 fun r W2 =>
          (r = .returned (.bool true)/\∃ M2,J B (i+1) M2 W2/\RoundKeeps R M1 W1 M2 W2/\∀ b,B b->W2.heap[b]? = W1.heap[b]?)\/(r = .returned (.bool false)/\Jx B W2/\∃ M2,RoundKeeps R M1 W1 M2 W2)) ->
      (∀ (B:Nat->Prop) W',IterStepB (fun _=>False) W W W'->(∀ b,B b->W.heap.size<=b/\∃ ob:Obj,W'.heap[b]? = some ob/\ob.isCells=true)->J B 0 (fun b o=>N0 b o\/B b) W') ->
      Calls P g (fs ++ #[.func (.yield l) #[] #[]]++pc) W fun r W'=>(∃ u,r = .returned u)/\((∃ B M1,J B ys.length M1 W')\/∃ B,Jx B W')
def withB (M0:Base) (B:Nat->Prop):Base:={ M0 with mu:=fun b o=>M0.mu b o\/B b }
section
variable {P : Program} [Inv P] {Φ : Nat → List Spec} {M0 : Base} {F : Nat → Prop} {w0 : World} {M : Mut} {st st' : St} {a : Act} {w : World} {o : Oper} {ρ : Type}
end
end Go.V
namespace Go.V
open Go.RowKit (Below)
section
variable {ρ : Type} (P : Program) (H : Hole) (Φ : Nat → List Spec) (hints : List (Nat × List Nat)) (N : Nat)
def vhr:Code->List (List Nat×HdH H)->(X->H.σ->St->Out ρ)->H.σ->St->Out ρ
  | .seq a b,T,k,s,st=>pickQ T (vexec P Φ hints N (.seq a b) (some []) (fun x st=>k x s st) st) (fun E=>E.run k s st) (vhr a (subL 0 T) (fun e s st=>match e with | .normal=>vhr b (subL 1 T) k s st|e=>k e s st) s st)
  | .cond c a b,T,k,s,st=>pickQ T (vexec P Φ hints N (.cond c a b) (some []) (fun x st=>k x s st) st) (fun E=>E.run k s st)
    (match opnd st c with
     | .d .bool v=>(match v with
       | true=>vhr a (subL 0 T) k s (setC c st true)
       | false=>vhr b (subL 1 T) k s (setC c st false))
     | _=>.fail)
  | .block id b,T,k,s,st=>pickQ T (vexec P Φ hints N (.block id b) (some []) (fun x st=>k x s st) st) (fun E=>E.run k s st) (vhr b (subL 0 T) (fun e s st=>match e with
      | .exit i=>if i=id then k .normal s st else k (.exit i) s st
      | e=>k e s st) s st)
  | .loop b,T,k,s,st=>pickQ T (vexec P Φ hints N (.loop b) (some []) (fun x st=>k x s st) st) (fun E=>E.run k s st) (iterQ (fun k' s st=>vhr b (subL 0 T) k' s st) (maskOf hints b) k N s (maskOf hints b st))
  | c,T,k,s,st=>pickQ T (vexec P Φ hints N c (some []) (fun x st=>k x s st) st) (fun E=>E.run k s st) .fail
end
section
variable {P : Program} [Inv P] {H : Hole} {Φ : Nat → List Spec} {ρ : Type}
def EOKR (P:Program) [Inv P] (H:Hole) (c:Code) (E:{ρ:Type}->(X->H.σ->St->Out ρ)->H.σ->St->Out ρ):Prop :=
  ∀ {ρ:Type} {fin:Out ρ} (_:fin ≠ .fail) (_:∀ p,fin ≠ .pan p) (F:Nat->Prop) (M0:Base) (w0:World) (ro:Option Nat) (n:Nat),(∀ w,Fr F w0 w->Inv.I P w)->(∀ j v,M0.pin j=some v->False) ->
    ∀ (k:X->H.σ->St->Out ρ) (Q:Exit->Act->World->Prop),
      (∀ x s st a w,ConcH H F M0 w0 s st a w->k x s st=fin->Q x.exit' a w)->∀ s st a w,ConcH H F M0 w0 s st a w->E k s st=fin->c.wpIn (fen ro) n P Q a w
def AllR (P:Program) [Inv P] (H:Hole) (c:Code) (T:List (List Nat×HdH H)):Prop:=∀ e∈T,∃ c',codeAt e.1 c=some c'/\EOKR P H c' (fun {ρ} k s st=>e.2.run (ρ:=ρ) k s st)
theorem allR_nil {c:Code}:AllR P H c []:=fun _ h=>absurd h List.not_mem_nil
theorem allR_cons {c c':Code} {p:List Nat} {E:HdH H} {T:List (List Nat×HdH H)} (h1:codeAt p c=some c') (h2:EOKR P H c' (fun {ρ} k s st=>E.run (ρ:=ρ) k s st)) (hT:AllR P H c T):AllR P H c ((p,E) :: T):=by
  intro e he
  rcases List.mem_cons.1 he with rfl|he
  . exact ⟨c',h1,h2⟩
  . exact hT e he
theorem AllR.seq {a b:Code} {T:List (List Nat×HdH H)} (h:AllR P H (.seq a b) T):AllR P H a (subL 0 T)/\AllR P H b (subL 1 T) :=
  ⟨fun e he=>h _ (mem_subL he),fun e he=>h _ (mem_subL he)⟩
theorem AllR.cond {c:Operand} {a b:Code} {T:List (List Nat×HdH H)} (h:AllR P H (.cond c a b) T):AllR P H a (subL 0 T)/\AllR P H b (subL 1 T) :=
  ⟨fun e he=>h _ (mem_subL he),fun e he=>h _ (mem_subL he)⟩
def HOKR (P:Program) [Inv P] (H:Hole) (Φ:Nat->List Spec) (hints:List (Nat×List Nat)) (N:Nat) {ρ:Type} (fin:Out ρ) (c:Code):Prop :=
  ∀ (T:List (List Nat×HdH H)),AllR P H c T->∀ (F:Nat->Prop) (M0:Base) (w0:World) (ro:Option Nat) (n:Nat),(∀ w,Fr F w0 w->Inv.I P w)->(∀ j v,M0.pin j=some v->False) ->
    ∀ (k:X->H.σ->St->Out ρ) (Q:Exit->Act->World->Prop),
      (∀ x s st a w,ConcH H F M0 w0 s st a w->k x s st=fin->Q x.exit' a w)->∀ s st a w,ConcH H F M0 w0 s st a w->vhr P H Φ hints N c T k s st=fin->c.wpIn (fen ro) n P Q a w
theorem pickR_ok (hΦ:∀ g sp,sp∈Φ g->Contract P sp) (hm:P.follows .mixedOrders=true) (hints:List (Nat×List Nat)) (N:Nat) {fin:Out ρ} (hf:fin ≠ .fail) (hr:∀ p,fin ≠ .pan p) {c:Code} {T:List (List Nat×HdH H)} (hT:AllR P H c T) {F:Nat->Prop} {M0:Base} {w0:World} {ro:Option Nat} {n:Nat}
    (hI:∀ w,Fr F w0 w->Inv.I P w) (hpl:∀ j v,M0.pin j=some v->False) {k:X->H.σ->St->Out ρ} {Q:Exit->Act->World->Prop}
    (hQ:∀ x s st a w,ConcH H F M0 w0 s st a w->k x s st=fin->Q x.exit' a w) {s:H.σ} {st:St} {a:Act} {w:World} (hc:ConcH H F M0 w0 s st a w) {new:Out ρ} (h:pickQ T (vexec P Φ hints N c (some []) (fun x st=>k x s st) st) (fun E=>E.run k s st) new=fin)
    (hnew:new=fin->c.wpIn (fen ro) n P Q a w):c.wpIn (fen ro) n P Q a w:=by
  unfold pickQ at h
  split at h
  . obtain ⟨N0,hpn,hcl,hback⟩:=hc.lift
    exact code_ok hΦ hm hints N hf c _ _ w (some []) ro n (fun h=>by cases h) (hc.inv hI) (fun j v hj=>(hpl j v (hpn j v hj)).elim) (fun x st=>k x s st) Q (fun _ p q hp=>absurd hp (hr p)) (fun x st a w hc h=>hQ x s st a w (hback _ _ _ hc) h) st a w hcl h
  . split at h
    . rename_i E hE
      obtain ⟨c',e1,e2⟩:=hT _ (mem_hereL hE)
      cases e1
      exact e2 hf hr F M0 w0 ro n hI hpl k Q hQ s st a w hc h
    . exact hnew h
theorem vhr_ok (hΦ:∀ g sp,sp∈Φ g->Contract P sp) (hm:P.follows .mixedOrders=true) (hints:List (Nat×List Nat)) (N:Nat) {fin:Out ρ} (hf:fin ≠ .fail) (hr:∀ p,fin ≠ .pan p):∀ (c:Code),HOKR P H Φ hints N fin c:=by
  intro c
  induction c with
  | seq x y ihx ihy =>
    intro T hT F M0 w0 ro n hI hpl k Q hQ s st a w hc h
    unfold vhr at h
    refine pickR_ok hΦ hm hints N hf hr hT hI hpl hQ hc h fun h=>?_
    refine wpIn_seq (ihx _ hT.seq.1 F M0 w0 ro n hI hpl _ _ ?_ s st a w hc h)
    intro e s st a w hc h
    cases e with
    | normal=>exact ihy _ hT.seq.2 F M0 w0 ro n hI hpl k Q hQ s st a w hc h
    | exit i=>exact hQ (.exit i) s st a w hc h
    | ret=>exact hQ .ret s st a w hc h
  | cond c x y ihx ihy =>
    intro T hT F M0 w0 ro n hI hpl k Q hQ s st a w hc h
    unfold vhr at h
    refine pickR_ok hΦ hm hints N hf hr hT hI hpl hQ hc h fun h=>?_
    split at h
    rotate_left
    . exact absurd h.symm hf
    rename_i v e
    obtain ⟨hb,M,hg⟩:=id hc
    refine wpIn_cond (slot_bool (e ▸ opnd_ok hg.2.1 c)) ?_
    cases v with
    | true =>
      dsimp only at h
      rw [setC_self e] at h
      exact ihx _ hT.cond.1 F M0 w0 ro n hI hpl k Q hQ s st a w hc h
    | false =>
      dsimp only at h
      rw [setC_self e] at h
      exact ihy _ hT.cond.2 F M0 w0 ro n hI hpl k Q hQ s st a w hc h
  | block id b ih =>
    intro T hT F M0 w0 ro n hI hpl k Q hQ s st a w hc h
    unfold vhr at h
    refine pickR_ok hΦ hm hints N hf hr hT hI hpl hQ hc h fun h=>?_
    refine wpIn_block (ih _ (fun e he=>hT _ (mem_subL he)) F M0 w0 ro n hI hpl _ _ ?_ s st a w hc h)
    intro x s st a w hc h
    cases x with
    | normal=>exact hQ .normal s st a w hc h
    | ret=>exact hQ .ret s st a w hc h
    | exit i =>
      show if i=id then _ else _
      dsimp only at h
      split
      . rename_i e;rw [if_pos e] at h;exact hQ .normal s st a w hc h
      . rename_i e;rw [if_neg e] at h;exact hQ (.exit i) s st a w hc h
  | loop b ih =>
    intro T hT F M0 w0 ro n hI hpl k Q hQ s st a w hc h
    unfold vhr at h
    refine pickR_ok hΦ hm hints N hf hr hT hI hpl hQ hc h fun h=>?_
    have key:∀ m s st a w,ConcH H F M0 w0 s st a w->iterQ (fun k' s st=>vhr P H Φ hints N b (subL 0 T) k' s st) (Go.V.maskOf hints b) k m s st=fin->Code.roundsIn (fen ro) n P b Q m a w:=by
      intro m
      induction m with
      | zero=>intro s st a w _ h;exact absurd h.symm hf
      | succ m ihm =>
        intro s st a w hc h
        refine ih _ (fun e he=>hT _ (mem_subL he)) F M0 w0 ro n hI hpl _ _ ?_ s st a w hc h
        intro x s st a w hc h
        cases x with
        | normal=>exact ihm s _ a w (hc.maskOf hpl) h
        | exit i=>exact hQ (.exit i) s st a w hc h
        | ret=>exact hQ .ret s st a w hc h
    exact wpIn_loop_rounds N (key N s _ a w (hc.maskOf hpl) h)
  | _ =>
    intro T hT F M0 w0 ro n hI hpl k Q hQ s st a w hc h
    unfold vhr at h
    exact pickR_ok hΦ hm hints N hf hr hT hI hpl hQ hc h fun h=>absurd h.symm hf
theorem decR_wp {s:H.σ} (hΦ:∀ g sp,sp∈Φ g->CallH P H s sp) {F:Nat->Prop} {M0:Base} {w0:World} (hI:∀ w,Fr F w0 w->Inv.I P w) {ro:Option Nat} {n:Nat} {st:St} {a:Act} {w:World} {o:Oper} (hc:ConcH H F M0 w0 s st a w) {ops:Array Oper} {i:Nat} (hi:ops[i]? = some o) {g:Nat} {wr:List (Nat×S)} (h:Dec P Φ ops o st g wr)
    {K:Act->World->Prop} {Q:Exit->Act->World->Prop} (hK:∀ a' w',ConcH H F M0 w0 s (app wr st) a' w'->K a' w'):wpOpIn (fen ro) n P ops Q i K a w:=by
  obtain ⟨hnb,b,hw,hrest⟩:=h
  obtain ⟨N0,hpn,⟨hb,M,hg⟩,hback⟩:=hc.lift
  have hI':=hc.inv hI
  have hwant:=wantS_ok hg hw
  unfold wpOpIn
  simp only [hi]
  rw [hwant]
  cases b with
  | false =>
    rw [if_neg (by simp)]
    obtain ⟨_,rfl⟩:=hrest
    exact ⟨fun f _=>fen_fn ro f,hK _ _ (hback _ _ _ ⟨hb,M,hg.fin (nobox_of hnb) rfl ⟨[],rfl,rfl⟩⟩)⟩
  | true =>
    rw [if_pos rfl]
    rcases hrest.2 with ⟨y,r,hy,hr,rfl⟩|h
    . obtain ⟨h1,hk,e,t1,e2,he,xs,z,ys,hot,v1,v2,g1,g2,g3,g4,g5,g6,g7⟩:=op_take hg hy
      rcases hΦ _ _ h1 with hct|⟨hk',_⟩
      rotate_left
      . rw [hk] at hk';cases hk'
      unfold Contract at hct
      rw [hk] at hct
      have harr:ArrAt M w e (tm a y.2.2) xs:=by have:=hg.slot y.2.2;rw [g1] at this;exact this
      have hct:=hct e t1 e2 he xs z ys M w (tm a y.2.2) v1 v2 r (hI' _ hb) harr g4 g5 g6 g7 hg.lt (fun x hx=>by
        have:x=y.2.1:=takeX_inj he (hx.trans g2.symm)
        rw [this];exact hr)
      refine ⟨fun f _=>fen_fn ro f,?_⟩
      rw [take_sem hy,g3]
      refine ⟨fun hd=>by rw [fen_depth] at hd;simp at hd,calls_fen (hct.mono fun e w' he=>?_)⟩
      obtain ⟨v,rfl,hb',M',m1,m2,m3,m4⟩:=he
      obtain ⟨f1,f2⟩:=hg.take hnb g1 hb' m1 m2 m3 m4
      exact hK _ _ (hback _ _ _ ⟨hb.trans f1,M',f2⟩)
    have hne:vpre P Φ o st ≠ .bad:=by
      rcases h with ⟨rd,h⟩|⟨i,n,rd,f,j,h,_⟩|⟨sp,x,rd,r,h,_⟩<;>rw [h]<;>simp
    refine ⟨fun f _=>fen_fn ro f,?_⟩
    rw [semAt_of hne]
    have fin:ORun P (fun b=>F b\/H.hb s w b) N0 w o a w (app wr st)->o.uponIn (fen ro) n P a K Q ((execOp a.eval o).run P w):=by
      rintro ⟨v,w',hr,hb',M',hg'⟩
      rcases hr with hr|⟨hr,rfl⟩
      . rw [hr];exact hK _ _ (hback _ _ _ ⟨hb',M',hg'⟩)
      . rw [hr];exact hK _ _ (hback _ _ _ ⟨hb',M',hg'⟩)
    rcases h with ⟨rd,h⟩|⟨i,n,rd,f,j,h,hj,hij,rfl⟩|⟨sp,x,rd,r,h,hr,rfl⟩
    . exact fin (op_eff hg hb (nobox_of hnb) h rfl)
    . exact fin (op_cse hg hb (nobox_of hnb) h hj hij)
    . obtain ⟨h1,hk,vs,h2,h3⟩:=op_call hg h
      rcases hΦ _ _ h1 with hct|⟨_,hct⟩
      . unfold Contract at hct
        rw [hk] at hct
        have hct:=hct x M w vs (hI' _ hb) h3 hg.lt
        rw [hr] at hct
        rw [h2]
        refine ⟨fun hd=>by rw [fen_depth] at hd;simp at hd,calls_fen (hct.mono fun e w' he=>?_)⟩
        obtain ⟨v,rfl,hb',hres⟩:=he
        obtain ⟨M',hg'⟩:=hg.res hnb hb' hres
        exact hK _ _ (hback _ _ _ ⟨hb.trans (Fr.below hb' hg.room),M',hg'⟩)
      . obtain ⟨hfr0,M2,hG⟩:=id hc
        obtain ⟨h1',hk',vs',h2',h3'⟩:=op_call hG.2.1 h
        have hct:=hct x M2 w vs' r (hI' _ hb) hG.1 h3' hG.2.1.lt (fun b hB=>(hG.2.2 b hB).2.1) hr
        rw [h2']
        refine ⟨fun hd=>by rw [fen_depth] at hd;simp at hd,calls_fen (hct.mono fun e w' he=>?_)⟩
        obtain ⟨v,rfl,hf',hs',hres⟩:=he
        obtain ⟨e1,M',hg'⟩:=hG.res hnb hf' hs' hres
        exact hK _ _ ⟨hfr0.trans e1,M',hg'⟩
def HandR (P:Program) [Inv P] (H:Hole) (ops:Array Oper) (i c:Nat) (g:H.σ->St->Bool×Outs H):Prop :=
  ∀ (F:Nat->Prop) (M0:Base) (w0:World) (ro:Option Nat) (n:Nat),(∀ w,Fr F w0 w->Inv.I P w)->(∀ j v,M0.pin j=some v->False) ->
    ∀ (Q:Exit->Act->World->Prop) (rest:List Nat) s st a w,ConcH H F M0 w0 s st a w->(g s st).1=true->(∀ z,(g s st).2.mem z->∀ a' w',ConcH H F M0 w0 z.1 z.2 a' w'->wpOpsIn (fen ro) n P ops Q rest a' w') ->
      wpOpsIn (fen ro) n P ops Q (List.range' i (c+1)++rest) a w
def HandOpR (P:Program) [Inv P] (H:Hole) (ops:Array Oper) (i:Nat) (g:H.σ->St->Bool×Outs H):Prop :=
  ∀ (F:Nat->Prop) (M0:Base) (w0:World) (ro:Option Nat) (n:Nat),(∀ w,Fr F w0 w->Inv.I P w)->(∀ j v,M0.pin j=some v->False) ->
    ∀ (Q:Exit->Act->World->Prop) (K:Act->World->Prop) s st a w,ConcH H F M0 w0 s st a w->(g s st).1=true->(∀ z,(g s st).2.mem z->∀ a' w',ConcH H F M0 w0 z.1 z.2 a' w'->K a' w') ->
      wpOpIn (fen ro) n P ops Q i K a w
theorem HandOpR.one {ops:Array Oper} {i:Nat} {g:H.σ->St->Bool×Outs H} (h:HandOpR P H ops i g):HandR P H ops i 0 g:=by
  intro F M0 w0 ro n hI hpl Q rest s st a w hc h1 hK
  show wpOpsIn (fen ro) n P ops Q (i :: rest) a w
  rw [wpOpsIn_cons]
  exact h F M0 w0 ro n hI hpl Q _ s st a w hc h1 hK
theorem hlexR_seq {Ψ:H.σ->Nat->List Spec} (hΨ:∀ s g sp,sp∈Ψ s g->CallH P H s sp) {F:Nat->Prop} {M0:Base} {w0:World} (hI:∀ w,Fr F w0 w->Inv.I P w) (hpl:∀ j v,M0.pin j=some v->False) {ro:Option Nat} {n:Nat} {ops:Array Oper} {D:Nat->Option (Nat×(H.σ->St->Bool×Outs H))} {k:H.σ->St->Out ρ} {fin:Out ρ} (hf:fin ≠ .fail) {Q:Exit->Act->World->Prop}
    (hD:∀ i y,D i=some y->HandR P H ops i y.1 y.2)
    (hk:∀ s st a w,ConcH H F M0 w0 s st a w->k s st=fin->Q .normal a w) :
    ∀ (m:Nat) (l:List Oper),l.length<=m->∀ (i:Nat) (s:H.σ) (st:St) (a:Act) (w:World),(∀ j,l[j]? = ops[i+j]?)->ConcH H F M0 w0 s st a w->hlexQ P H Ψ D ops k l i 0 s st=fin->wpOpsIn (fen ro) n P ops Q (List.range' i l.length) a w:=by
  intro m
  induction m with
  | zero =>
    intro l hm i s st a w hl hc h
    obtain rfl:l=[]:=List.eq_nil_of_length_eq_zero (by omega)
    exact hk s st a w hc h
  | succ m ih =>
    intro l hm i s st a w hl hc h
    cases l with
    | nil=>exact hk s st a w hc h
    | cons o l =>
      have hm':l.length<=m:=by simpa using hm
      have hl':∀ j,l[j]? = ops[i+1+j]? := fun j=>by have:=hl (j+1);simpa [Nat.add_assoc,Nat.add_comm 1 j] using this
      have hi:ops[i]? = some o:=by simpa using (hl 0).symm
      unfold hlexQ at h
      cases hy:D i with
      | none =>
        rw [hy] at h
        dsimp only at h
        simp only [List.length_cons,List.range'_succ]
        rw [wpOpsIn_cons]
        rcases vop_ok hf h with ⟨g,wr,hd,hk'⟩|⟨g,p,hp,_,_,hpn⟩
        . exact decR_wp (hΨ s) hI hc hi hd fun a' w' hc'=>ih l hm' (i+1) s _ a' w' hl' hc' hk'
        . exact absurd hp.symm hf
      | some y =>
        rw [hy] at h
        dsimp only at h
        cases hcd:(y.2 s st).1 with
        | false=>rw [hcd] at h;exact absurd h.symm hf
        | true =>
        rw [hcd] at h
        obtain ⟨⟨z0,hz0⟩,hall⟩:=outsOf_ok hf (show outsOf _ _=fin from h)
        have hlen:=(hlexQ_skip hf l (i+1) y.1 z0.1 z0.2 (hall z0 hz0)).1
        have e:List.range' i (o :: l).length=List.range' i (y.1+1)++List.range' (i+1+y.1) (l.drop y.1).length:=by
          have e1:(o :: l).length=(y.1+1)+(l.drop y.1).length:=by rw [List.length_cons,List.length_drop];omega
          have e2:i+1+y.1=i+1 * (y.1+1):=by omega
          rw [e1,e2,List.range'_append]
        rw [e]
        refine hD i y hy F M0 w0 ro n hI hpl Q _ s st a w hc hcd fun z hz a' w' hc'=>ih _ (by rw [List.length_drop];omega) _ z.1 z.2 a' w' (fun j=>?_) hc' (hlexQ_skip hf l (i+1) y.1 z.1 z.2 (hall z hz)).2
        rw [List.getElem?_drop,hl']
        congr 1
        omega
theorem regR_ok {Ψ:H.σ->Nat->List Spec} (hΨ:∀ s g sp,sp∈Ψ s g->CallH P H s sp) (hints:List (Nat×List Nat)) {D:Nat->Option (Nat×(H.σ->St->Bool×Outs H))} {id:Nat} {ops:Array Oper} (hD:∀ i y,D i=some y->HandR P H ops i y.1 y.2) :
    EOKR P H (.region id ops false) (fun {ρ} k s st=>regQ P H Ψ hints D id ops k s st):=by
  intro ρ fin hf hr F M0 w0 ro n hI hpl k Q hQ s st a w hc h
  obtain ⟨N0,hpn,hcl,hback⟩:=hc.lift
  have hc:=hback _ _ _ (hcl.frz (P:=P) (hints:=hints) (id:=id) fun j v hj=>(hpl j v (hpn j v hj)).elim)
  refine wpIn_region ?_
  have:=hlexR_seq (F:=F) (M0:=M0) (w0:=w0) (ro:=ro) (n:=n) (ops:=ops) hΨ hI hpl hf (Q:=Q) hD (fun s st a w hc h=>hQ .normal s st a w hc h) _ ops.toList (Nat.le_refl _) 0 s _ a w (fun j=>by simp) hc h
  rw [List.range_eq_range']
  simpa using this
end
end Go.V
namespace Go.V
open Go.RowKit (Below)
def vrngH {σ ρ:Type} (f:(X->σ->St->Out ρ)->σ->St->Out ρ) (same:σ->Bool) (p:Nat) (e:Ty) (st:St) (k:X->σ->St->Out ρ):List e.den->σ->Out ρ
  | [],s=>k .normal s st
  | y :: ys,s=>f (fun x s' _=>bif same s' then (match x with
      | .normal=>vrngH f same p e st k ys s'
      | x=>k x s' st) else .fail) s (st.set p (dS e y))
def noBox (st:St):Bool:=st.all fun s => !isBox s
theorem noBox_get {st:St} (h:noBox st=true) (j:Nat):isBox (get st j)=false:=by
  unfold get
  rw [List.getD_eq_getElem?_getD]
  cases e:st[j]? with
  | none=>rfl
  | some s =>
    have:=List.all_eq_true.1 h s (List.mem_of_getElem? e)
    simpa using this
theorem quiet_none {st:St} (hq:Quiet st) (hb:∀ j,isBox (get st j)=false) {a:Act} {w:World} {i:Nat} {k:Option Nat} {b:Nat}:¬ owns st a w i k b:=by
  intro ho
  cases k with
  | none =>
    rcases hq i with h|h
    . rw [hb i] at h;cases h
    . have:=ho.1;rw [h.1] at this;cases this
  | some k =>
    obtain ⟨cs,_,_,_,e,_⟩:=ho
    have:=hb i
    rw [e] at this
    cases this
theorem back_none (s:St):∀ (st:St) (i:Nat),(∀ x∈st,isBox x=false)->backF i st s=st
  | [],_,_=>rfl
  | x :: st,i,h=>by
    have hx:=h x (by simp)
    have e:backS x (get s i)=x:=by cases x<;>first|rfl|(simp [isBox] at hx)
    show backS x (get s i) :: backF (i+1) st s=_
    rw [e,back_none s st (i+1) fun y hy=>h y (by simp [hy])]
section
variable {P : Program} [Inv P] {H : Hole} {Φ : Nat → List Spec} {ρ : Type}
theorem range_okH (hints:List (Nat×List Nat)) (N:Nat) {fin:Out ρ} (hf:fin ≠ .fail) (hr:∀ p,fin ≠ .pan p) {assign body:Code} {T:List (List Nat×HdH H)} (iha:CodeOK P Φ hints N fin assign) (ihb:HOKR P H Φ hints N fin body) (hT:AllR P H body T)
    {n:Nat} {F:Nat->Prop} {M0:Base} {w0:World} (hI:∀ w,Fr F w0 w->Inv.I P w) (hpl:∀ j v,M0.pin j=some v->False) {same:H.σ->Bool} {s0:H.σ} (hfree:∀ s w w' b,H.hb s w b->H.hb s w' b) (hsame:∀ s M w b,same s=true->H.I s M w->H.hb s w b->H.hb s0 w b\/∃ ob:Obj,w.heap[b]? = some ob/\ob.isCells=true) (hs0:same s0=true)
    {k:X->H.σ->St->Out ρ} {Q:Exit->Act->World->Prop} (hk:∀ x s st a w,ConcH H F M0 w0 s st a w->k x s st=fin->Q x.exit' a w) {st:St} {a:Act} {w:World} {M:Mut} (hfr:Fr F w0 w) (hG:GoodH H F M0 s0 M st a w) {f:Operand} {ps:Array Tmp} {p:Nat} (hps:ps.toList=[p]) {v:Value} (hev:a.eval f=v)
    {e:Ty} {ys:List e.den} (hitB:IterP P v e ys M w) (hnb:noBox (st.map rngS)=true)
    (h:vrngH (fun k' s st=>vexec P Φ hints N assign (some []) (fun x st=>match x with | .normal=>vhr P H Φ hints N body T k' s st|_=>.fail) st) same p e (st.map rngS) k ys s0=fin):(Code.rangeFunc f ps assign body).wpIn (fen none) n P Q a w:=by
  obtain ⟨g',fs,pc,hv,hent,hit⟩:=hitB
  subst hev
  have hps':ps = #[p]:=by rw [<- Array.toArray_toList (xs:=ps),hps]
  subst hps'
  have hpn:∀ j,M0.pin j=none:=fun j=>by
    cases e:M0.pin j with
    | none=>rfl
    | some v=>exact (hpl j v e).elim
  generalize hst1:st.map rngS=st1 at h hnb
  have hnb':=noBox_get hnb
  have hq:Quiet st1:=hst1 ▸ quiet_rng st
  have hgr:∀ j,get st1 j=rngS (get st j):=fun j=>by
    rw [<- hst1]
    unfold get
    rw [List.getD_eq_getElem?_getD,List.getD_eq_getElem?_getD,List.getElem?_map]
    cases st[j]? <;> rfl
  have hno:∀ {a:Act} {w:World} {i:Nat} {k:Option Nat} {b:Nat},¬ owns st1 a w i k b:=quiet_none hq hnb'
  have hG1:GoodH H F M0 s0 M st1 a w:=by
    refine hG.unfocus (Fr.refl _ _) (hG.focus.mask (by rw [<- hst1];simp) (fun j=>by
      rw [hgr]
      cases get st j<;>first|exact .inr (.inr rfl)|exact .inr (.inl rfl)) fun j v hj=>?_)
    have hj:M0.pin j=some v:=hj
    rw [hpn j] at hj;cases hj
  have hg:=hG1.2.1
  show (Code.rangeFunc f #[p] assign body).wpIn Fence.wide n P Q a w
  refine wpIn_rangeFunc ?_
  intro fn hfn
  obtain ⟨rec,hrec⟩:∃ rec:LoopState->Option Code->Loop,rec=fun st pe=>{ state:=st,pending:=pe,fn,tmps:=a.tmps,params := #[p],assign,body,defers:=w.heap.size }:=⟨_,rfl⟩
  obtain ⟨W1,hW1⟩:∃ W1,(w.alloc (.deferred (some []))).alloc (.loop (rec .ready none))=W1:=⟨_,rfl⟩
  obtain ⟨a0,ha0⟩:∃ a0:Act,a0={ tmps:=a.tmps,defers:=[] }:=⟨_,rfl⟩
  have ht0:a0.tmps=a.tmps:=by rw [ha0]
  have hsz1:W1.heap.size=w.heap.size+2:=by rw [<- hW1];simp
  have hL1:W1.heap[w.heap.size+1]? = some (.loop (rec .ready none)):=by
    rw [<- hW1];have:=World.alloc_heap_new (w.alloc (.deferred (some []))) (.loop (rec .ready none));rwa [World.size_alloc] at this
  have hK1:W1.heap[w.heap.size]? = some (.deferred (some [])):=by
    rw [<- hW1];exact (Below.heap_alloc _ _ _ (by simp)).trans (World.alloc_heap_new w _)
  have hb1:Below w.heap.size w W1:=by rw [<- hW1];exact ((Below.refl _ w).alloc (Nat.le_refl _) _).alloc (by simp) _
  have hmk1:Marks M0.dm W1 ({ target:=.collected w.heap.size,args := #[] } :: a.defers):=by
    refine ⟨⟨_,rfl,hK1,hg.dm _ fun hF=>absurd (hg.room _ hF) (Nat.lt_irrefl _)⟩,fun d hd e=>?_,hg.defers.keep (KeepsD.below hb1)⟩
    have:∀ ds:List Deferred,Marks M0.dm w ds->d∈ds->∃ D,d={ target:=.collected D,args := #[] }/\D<w.heap.size:=by
      intro ds
      induction ds with
      | nil=>intro _ h;simp at h
      | cons d' ds ih =>
        rintro ⟨⟨D,e1,e2,_⟩,_,h3⟩ h
        rcases List.mem_cons.1 h with rfl|h
        . exact ⟨D,e1,(Array.getElem?_eq_some_iff.1 e2).1⟩
        . exact ih h3 h
    obtain ⟨D,e1,e2⟩:=this _ hg.defers hd
    rw [e1] at e
    simp only [Deferred.mk.injEq,Target.collected.injEq,and_true] at e
    omega
  have hga:Good M0 F M st1 a0 W1:=(hg.below hb1).act ht0 (by rw [ha0];trivial)
  have hroom:∀ b,F b->b<w.heap.size:=fun b hF=>hg.room b hF
  have hFl:∀ {W:World},¬ F (w.heap.size+1):=fun {_} hF=>by have:=hroom _ hF;omega
  have hh0:∀ b W,H.hb s0 W b->b<w.heap.size/\¬ F b:=fun b W hb=>by
    have hb':=hfree s0 W w b hb
    exact ⟨H.lt s0 M w b hG1.1 hb',(hG1.2.2 b hb').1⟩
  have hns:NoSit st1:=quiet_nosit hq (fun j _=>rfl) (fun j h=>h)
  obtain ⟨J,hJ⟩:∃ J:(Nat->Prop)->Nat->Mut->World->Prop,J=fun B i M1 W=>(∀ b,B b->W1.heap.size<=b/\b<W.heap.size)/\Fr F w0 W/\W.heap[w.heap.size+1]? = some (.loop (rec .ready none))/\KeepsD W1 W/\W1.heap.size<=W.heap.size /\
    ∃ s,same s=true/\GoodH H (fun b=>F b\/B b) (withB M0 B) s M1 st1 a0 W /\
      vrngH (fun k' s st=>vexec P Φ hints N assign (some []) (fun x st=>match x with | .normal=>vhr P H Φ hints N body T k' s st|_=>.fail) st) same p e st1 k (ys.drop i) s=fin:=⟨_,rfl⟩
  obtain ⟨Jx,hJx⟩:∃ Jx:(Nat->Prop)->World->Prop,Jx=fun B W=>∃ (x:X) (c:Code) (M1:Mut) (s:H.σ),jumpOf x=some c/\(∀ b,B b->W1.heap.size<=b/\b<W.heap.size)/\Fr F w0 W/\W.heap[w.heap.size+1]? = some (.loop (rec .done (some c)))/\KeepsD W1 W/\W1.heap.size<=W.heap.size /\
      same s=true/\GoodH H (fun b=>F b\/B b) (withB M0 B) s M1 st1 a0 W/\k x s st1=fin:=⟨_,rfl⟩
  have step:∀ {B:Nat->Prop} {W2 W3:World},(∀ b,B b->W1.heap.size<=b/\b<W2.heap.size)->IterStepB B W1 W2 W3->KeepsD W1 W2->KeepsD W1 W3:=fun hB hs hk D c e =>
    (hs.1.block D ⟨(Array.getElem?_eq_some_iff.1 e).1,fun h=>by have:=(hB D h).1;have:=(Array.getElem?_eq_some_iff.1 e).1;omega⟩).trans (hk D c e)
  have frB:∀ {B:Nat->Prop} {W2 W3:World},(∀ b,B b->W1.heap.size<=b/\b<W2.heap.size)->IterStepB B W1 W2 W3->Fr F W2 W3:=fun hB hs=>⟨hs.1.os,hs.1.tape,hs.1.output,hs.1.size,fun b hF=>hs.1.block b ⟨Nat.lt_of_lt_of_le (hroom b hF) hb1.size,fun h=>by have:=(hB b h).1;have:=hroom b hF;omega⟩⟩
  have hBn:∀ {B:Nat->Prop} {W2:World},(∀ b,B b->W1.heap.size<=b/\b<W2.heap.size)->¬ B (w.heap.size+1):=fun hB h=>by have:=(hB _ h).1;omega
  have stepG:∀ {B:Nat->Prop} {M1:Mut} {s:H.σ} {W2 W3:World},(∀ b,B b->W1.heap.size<=b/\b<W2.heap.size)->IterStepB B W1 W2 W3->same s=true->GoodH H (fun b=>F b\/B b) (withB M0 B) s M1 st1 a0 W2->GoodH H (fun b=>F b\/B b) (withB M0 B) s M1 st1 a0 W3:=by
    intro B M1 s W2 W3 hB hs hsm hg2
    obtain ⟨i1,i2,i3⟩:=hg2
    have hsb:∀ b,H.hb s W2 b->W3.heap[b]? = W2.heap[b]? := fun b hb=>by
      rcases hsame s M1 W2 b hsm i1 hb with h|⟨ob,e1,e2⟩
      . have h1:=hh0 b W2 h
        exact hs.1.block b ⟨by omega,fun h=>by have:=(hB b h).1;omega⟩
      . exact (hs.2 b ob (fun h=>(i3 b hb).1 (.inr h)) e1 e2).trans e1.symm
    have hst:Stable M1 W2 M1 W3:=fun b o v e hn=>by
      have hb:¬ B b:=fun hb=>hn (i2.up b o (.inr hb))
      obtain ⟨ob,e1,e2⟩:=cells_of_cell e
      exact ⟨(World.cell?_of_block (a:=⟨b,o,none⟩) (by rw [hs.2 b ob hb e1 e2,e1])).trans e,hn⟩
    refine ⟨H.keep s M1 W2 M1 W3 i1 hst hsb,i2.cellsB hns (fun b hB o=>i2.up b o (.inr hB)) (fun i k b ho hB=>hno ho) hs.1.size hs.2 (by rw [ha0];trivial),fun b hb=>?_⟩
    have hb2:H.hb s W2 b:=hfree s W3 W2 b hb
    exact ⟨(i3 b hb2).1,(i3 b hb2).2.1,fun i k ho=>hno ho⟩
  refine ⟨w.heap.size+1,[{ target:=.collected w.heap.size,args := #[] }],W1,{ target:=.fn (.func g') pc,args:=fs ++ #[.func (.yield (w.heap.size+1)) #[] #[]] },W1,g',fs ++ #[.func (.yield (w.heap.size+1)) #[] #[]]++pc,W1,?_,?_,fun _ _=>trivial,?_,fun h=>by simp [Fence.wide] at h,?_⟩
  . rw [<- hW1,hrec];exact run_enterLoop_outer _ _ _ _ _
  . simp only [resolve,hv]
    simp [Deferred.ofValue,Act.eval]
  . simp [invoke,enters_run hent]
  . refine callsIn_wide.2 ((hit (n - 1 - 1) (w.heap.size+1) (fun b=>b=w.heap.size+1) J Jx W1 M (stable_below hb1) hb1.size (hI W1 (hfr.trans (Fr.below hb1 hroom))) (fun b o hm=>Nat.lt_of_lt_of_le (hg.lt b o hm) hb1.size)
      (fun b e=>by subst e;exact ⟨by omega,fun ob e=>by rw [hL1] at e;cases e;rfl⟩) (fun B i M1 W h=>hI _ (by rw [hJ] at h;exact h.2.1)) ?_ ?_ ?_ ?_).mono ?_)
    . intro B i M1 W2 W3 hj hs
      rw [hJ] at hj ⊢
      obtain ⟨j0,j1,j2,j3,j4,s,j5,j6,j9⟩:=hj
      exact ⟨fun b hb=>⟨(j0 b hb).1,Nat.lt_of_lt_of_le (j0 b hb).2 hs.1.size⟩,j1.trans (frB j0 hs),(hs.1.block _ ⟨by omega,hBn j0⟩).trans j2,step j0 hs j3,Nat.le_trans j4 hs.1.size,s,j5,stepG j0 hs j5 j6,j9⟩
    . intro B W2 W3 hj hs
      rw [hJx] at hj ⊢
      obtain ⟨x,c,M1,s,j0,jB,j1,j2,j3,j4,j5,j6,j7⟩:=hj
      exact ⟨x,c,M1,s,j0,fun b hb=>⟨(jB b hb).1,Nat.lt_of_lt_of_le (jB b hb).2 hs.1.size⟩,j1.trans (frB jB hs),(hs.1.block _ ⟨by omega,hBn jB⟩).trans j2,step jB hs j3,Nat.le_trans j4 hs.1.size,j5,stepG jB hs j5 j6,j7⟩
    . -- one round
      intro B i M1 W u yy hj hyi hu
      rw [hJ] at hj
      obtain ⟨jB,j1,j2,j3,j4,s,jsm,jG,j9⟩:=hj
      have j5:=jG.2.1
      have hyld:=run_yield (P:=P) (args := #[u]) j2 (by rw [hrec];rfl)
      rw [hrec] at hyld
      refine ⟨fn,_,assign,body,hyld,roundIn_of_wpIn hfn ?_⟩
      have hdrop:ys.drop i=yy :: ys.drop (i+1):=by
        obtain ⟨hlt,e⟩:=List.getElem?_eq_some_iff.1 hyi
        rw [List.drop_eq_getElem_cons hlt,e]
      rw [hdrop] at j9
      unfold vrngH at j9
      have hhl:¬ H.hb s W (w.heap.size+1):=fun h=>by
        rcases hsame s M1 W _ jsm jG.1 h with h|⟨ob,e1,e2⟩
        . have:=(hh0 _ W h).1;omega
        . rw [j2] at e1;cases e1;cases e2
      obtain ⟨G,hGd⟩:∃ G:Nat->Prop,G=fun b=>b<W.heap.size/\¬ H.hb s W b:=⟨_,rfl⟩
      obtain ⟨N0,hN0⟩:∃ N0:Base,N0={ mu:=fun b o=>M1 b o/\G b,ms:=M1,ws:=W,pin:=fun _=>none,dm:=fun _=>True }:=⟨_,rfl⟩
      have hb0:Good N0 G M1 st1 a0 W:=j5.rebase (fun b h=>by rw [hGd] at h;exact h.1) (fun b o h=>by rw [hN0] at h;exact h.2) (fun b o h=>by rw [hN0] at h;exact h.1) (fun b o h1 h2=>by rw [hN0];exact ⟨h2,h1⟩)
        (fun i k b ho h=>hno ho) (by rw [hN0];exact stable_refl _ _) (fun j v hj=>by rw [hN0] at hj;cases hj) (fun _=>by rw [hN0];trivial)
      have hbG:GoodH H G N0 s M1 st1 a0 W:=⟨jG.1,hb0,fun b hb=>⟨fun h=>by rw [hGd] at h;exact h.2 hb,(jG.2.2 b hb).2.1,fun i k ho=>hno ho⟩⟩
      have hb1':Good (apartB N0 (H.hb s W) M1 W) (fun b=>G b\/H.hb s W b) M1 (st1.set p (dS e yy)) (a0.put (some p) u) W:=hbG.focus.fin (dst:=some p) (s:=dS e yy) (v:=u) (fun d hd=>by cases hd;exact hnb' p) (plain_dS _ _) (dS_ok hu)
      have hact:a0.put (some p) u={ tmps:=(#[p].zip #[u]).foldl (fun t (q,v)=>t.setIfInBounds q v) a.tmps,defers:=[] }:=by rw [ha0];simp [Act.put]
      rw [hact] at hb1'
      have hFG':∀ b,(F b\/B b)->G b:=fun b hF=>by rw [hGd];exact ⟨j5.room b hF,fun hb=>(jG.2.2 b hb).1 hF⟩
      have hFG:∀ b,F b->G b:=fun b hF=>hFG' b (.inl hF)
      have hFrF:∀ {A C:World},Fr G A C->Fr F A C:=fun h=>⟨h.os,h.tape,h.output,h.size,fun b hF=>h.block b (hFG b hF)⟩
      have hGl:G (w.heap.size+1):=by
        rw [hGd]
        exact ⟨(Array.getElem?_eq_some_iff.1 j2).1,hhl⟩
      refine iha (fun b=>G b\/H.hb s W b) (apartB N0 (H.hb s W) M1 W) W (some []) (some (w.heap.size+1)) _ (fun h=>by cases h) (fun w' hw'=>hI w' (j1.trans (hFrF (fr_left hw')))) (fun j v hj=>by
        have hj:N0.pin j=some v:=hj
        rw [hN0] at hj;cases hj) _ _ (fun h=>by cases h) ?_ _ _ _ ⟨Fr.refl _ _,M1,hb1'⟩ j9
      rintro xa sa aa wa ⟨hfa',Ma,hga''⟩ hka
      cases xa with
      | exit i=>exact absurd hka.symm hf
      | ret=>exact absurd hka.symm hf
      | normal =>
      dsimp only at hka
      have hga':GoodH H G N0 s Ma sa aa wa:=hbG.unfocus hfa' hga''
      have hfa:Fr G W wa:=fr_left hfa'
      have hhw:∀ b,H.hb s wa b->H.hb s W b:=fun b hb=>hfree s wa W b hb
      have hla:wa.heap[w.heap.size+1]? = some (.loop (rec .ready none)):=(hfa.block _ hGl).trans j2
      have hlat:w.heap.size+1<wa.heap.size:=(Array.getElem?_eq_some_iff.1 hla).1
      refine ⟨_,run_beginRound hla (by rw [hrec]),?_⟩
      generalize hwb:wa.putObj (w.heap.size+1) (.loop { rec .ready none with state:=.busy })=wb
      have hlb:wb.heap[w.heap.size+1]? = some (.loop { rec .ready none with state:=.busy }):=by rw [<- hwb];exact World.putObj_heap_same hlat
      have hob:∀ b,b≠w.heap.size+1->wb.heap[b]? = wa.heap[b]? := fun b hb=>by rw [<- hwb];exact World.putObj_heap_other hb
      have hszb:wb.heap.size=wa.heap.size:=by rw [<- hwb];simp
      have hcb:∀ (k:Nat) (ob:Obj),wa.heap[k]? = some ob->ob.isCells=true->wb.heap[k]? = some ob:=fun k ob e1 e2=>by
        rw [hob k fun e=>by rw [e,hla] at e1;cases e1;cases e2];exact e1
      have hstb:Stable Ma wa Ma wb:=stable_cells hcb
      have hownG:∀ i k b,owns sa aa wa i k b->¬ G b:=fun i k b ho=>hga'.2.1.new i k b ho
      have hownab:∀ i k b,owns sa aa wb i k b->owns sa aa wa i k b:=fun i k b ho=>by
        refine owns_world (fun i b ho=>hob b fun e=>?_) ho
        exact hga'.2.1.new i none b ho (e ▸ hGl)
      obtain ⟨G2,hG2⟩:∃ G2:Nat->Prop,G2=fun b=>b<wb.heap.size/\(∀ i k,¬ owns sa aa wb i k b)/\¬ H.hb s W b:=⟨_,rfl⟩
      obtain ⟨N2,hN2⟩:∃ N2:Base,N2={ mu:=fun b o=>Ma b o/\G2 b,ms:=M1,ws:=W,pin:=fun _=>none,dm:=fun _=>True }:=⟨_,rfl⟩
      have hGG:∀ b,G b->G2 b:=fun b hb=>by
        rw [hG2]
        refine ⟨?_,fun i k ho=>hownG i k b (hownab i k b ho) hb,?_⟩
        . have h1:b<W.heap.size:=by rw [hGd] at hb;exact hb.1
          have:=hfa.size
          omega
        . rw [hGd] at hb;exact hb.2
      have hgb:Good N0 G Ma sa aa wb:=by
        have hk':∀ i k b,owns sa aa wa i k b->wb.heap[b]? = wa.heap[b]? := fun i k b ho=>hob b fun e=>hga'.2.1.new i k b ho (e ▸ hGl)
        exact hga'.2.1.world hstb (by omega) hga'.2.1.up (fun b o hm=>by rw [hszb];exact hga'.2.1.lt b o hm) hga'.2.1.down (fun D c e=>(hob D fun e'=>by rw [e',hla] at e;cases e).trans e) fun i k b ho=>⟨hk' i k b ho,fun _ h=>h⟩
      have hgb2:Good N2 G2 Ma sa aa wb:=hgb.rebase (fun b h=>by rw [hG2] at h;exact h.1) (fun b o h=>by rw [hN2] at h;exact h.2) (fun b o h=>by rw [hN2] at h;exact h.1) (fun b o h1 h2=>by rw [hN2];exact ⟨h2,h1⟩)
        (fun i k b ho h=>by rw [hG2] at h;exact h.2.1 i k ho) (by have:=hgb.keep;rw [hN0] at this;rw [hN2];exact this) (fun j v hj=>by rw [hN2] at hj;cases hj) (fun _=>by rw [hN2];trivial)
      have hIb:H.I s Ma wb:=H.keep s Ma wa Ma wb hga'.1 hstb fun b hb=>hob b fun e=>hhl (e ▸ hhw b hb)
      have hgH2:GoodH H G2 N2 s Ma sa aa wb:=⟨hIb,hgb2,fun b hb=>by
        have hbW:=hfree s wb W b hb
        have hbA:=hfree s wb wa b hb
        exact ⟨fun h=>by rw [hG2] at h;exact h.2.2 hbW,(hga'.2.2 b hbA).2.1,fun i k ho=>(hga'.2.2 b hbA).2.2 i k (hownab i k b ho)⟩⟩
      have hFrb:Fr F w0 wb:=(j1.trans (hFrF hfa)).but (g:=w.heap.size+1) (hFl (W:=w)) (by rw [<- hwb];rfl) (by rw [<- hwb];rfl) (by rw [<- hwb];rfl) (by omega) hob
      have hF2:∀ {A C:World},Fr G2 A C->Fr F A C:=fun h=>⟨h.os,h.tape,h.output,h.size,fun b hF=>h.block b (hGG b (hFG b hF))⟩
      refine ihb T hT G2 N2 wb (some (w.heap.size+1)) _ (fun w' hw'=>hI w' (hFrb.trans (hF2 hw'))) (fun j v hj=>by rw [hN2] at hj;cases hj) _ _ ?_ s _ _ _ ⟨Fr.refl _ _,Ma,hgH2⟩ hka
      rintro xb s' sb ab wc ⟨hfb,Mb,hgC⟩ hkb
      have hgc:=hgC.2.1
      cases hsm:same s' with
      | false=>rw [hsm] at hkb;exact absurd hkb.symm hf
      | true =>
      rw [hsm] at hkb
      simp only [cond_true] at hkb
      have hlc:wc.heap[w.heap.size+1]? = some (.loop { rec .ready none with state:=.busy }):=(hfb.block _ (hGG _ hGl)).trans hlb
      have hlct:w.heap.size+1<wc.heap.size:=(Array.getElem?_eq_some_iff.1 hlc).1
      have hjump:∀ jump:Option Code,(Instr.endRound (w.heap.size+1) jump).run P wc = .ok (.bool jump.isNone) (wc.putObj (w.heap.size+1) (.loop (rec (if jump.isNone then .ready else .done) jump))):=fun jump=>by
        have:=run_endRound (P:=P) jump hlc
        rw [hrec] at this ⊢
        exact this
      have common:∀ (r:Loop),GoodH H (fun b=>F b\/B b) (withB M0 B) s' Mb st1 a0 (wc.putObj (w.heap.size+1) (.loop r))/\Fr F w0 (wc.putObj (w.heap.size+1) (.loop r))/\KeepsD W1 (wc.putObj (w.heap.size+1) (.loop r))/\W1.heap.size<=(wc.putObj (w.heap.size+1) (.loop r)).heap.size /\
          RoundKeeps (fun b=>b=w.heap.size+1) M1 W Mb (wc.putObj (w.heap.size+1) (.loop r))/\∀ b,B b->(wc.putObj (w.heap.size+1) (.loop r)).heap[b]? = W.heap[b]? := by
        intro r
        generalize hwd:wc.putObj (w.heap.size+1) (.loop r)=wd
        have hod:∀ b,b≠w.heap.size+1->wd.heap[b]? = wc.heap[b]? := fun b hb=>by rw [<- hwd];exact World.putObj_heap_other hb
        have hszd:wd.heap.size=wc.heap.size:=by rw [<- hwd];simp
        have hcd:∀ (k:Nat) (ob:Obj),wc.heap[k]? = some ob->ob.isCells=true->wd.heap[k]? = some ob:=fun k ob e1 e2=>by
          rw [hod k fun e=>by rw [e,hlc] at e1;cases e1;cases e2];exact e1
        have hstd:Stable Mb wc Mb wd:=stable_cells hcd
        have hhl':∀ b,H.hb s' wc b->b≠w.heap.size+1:=fun b hb e=>by
          rcases hsame s' Mb wc b hsm hgC.1 hb with h|⟨ob,e1,e2⟩
          . have:=(hh0 b wc h).1;omega
          . rw [e,hlc] at e1;cases e1;cases e2
        have hgd:Good N2 G2 Mb sb ab wd:=by
          have hk':∀ i k b,owns sb ab wc i k b->wd.heap[b]? = wc.heap[b]? := fun i k b ho=>hod b fun e=>hgc.new i k b ho (e ▸ hGG _ hGl)
          exact hgc.world hstd (by omega) hgc.up (fun b o hm=>by rw [hszd];exact hgc.lt b o hm) hgc.down (fun D c e=>(hod D fun e'=>by rw [e',hlc] at e;cases e).trans e) fun i k b ho=>⟨hk' i k b ho,fun _ h=>h⟩
        have hId:H.I s' Mb wd:=H.keep s' Mb wc Mb wd hgC.1 hstd fun b hb=>hod b (hhl' b hb)
        have hkeep:Stable M1 W Mb wd:=by have:=hgd.keep;rw [hN2] at this;exact this
        have hmd:∀ b o,G b->Mb b o->M1 b o:=fun b o hb hm=>by
          have h1:=hgd.down b o (hGG b hb) hm
          rw [hN2] at h1
          have h2:=hgb.down b o hb h1.1
          rw [hN0] at h2
          exact h2.1
        have hmu:∀ b o,G b->M1 b o->Mb b o:=fun b o hb hm=>by
          have h1:N0.mu b o:=by rw [hN0];exact ⟨hm,hb⟩
          have h2:N2.mu b o:=by rw [hN2];exact ⟨hgb.up b o h1,hGG b hb⟩
          exact hgd.up b o h2
        have hsize:W.heap.size<=wd.heap.size:=by have:=hfa.size;have:=hfb.size;omega
        have hsame':∀ b,G b->b≠w.heap.size+1->wd.heap[b]? = W.heap[b]? := fun b hb hne=>by
          rw [hod b hne,hfb.block b (hGG b hb),hob b hne,hfa.block b hb]
        have hgood:Good (withB M0 B) (fun b=>F b\/B b) Mb st1 a0 wd:=by
          have:=Good.backed hq j5 rfl (fun _ _=>rfl) hgd hkeep (fun j hj=>by rw [hnb' j] at hj;cases hj) (by rw [ha0];trivial) (fun b hF=>by have:=j5.room b hF;omega) (fun b o hm=>hmu b o (hFG' b (j5.base b o hm)) (j5.up b o hm))
            (fun b o hF hm=>j5.down b o hF (hmd b o (hFG' b hF) hm)) (fun i k b ho hF=>hgd.new i k b ho (hGG b (hFG' b hF))) (fun j=>hpn j) j5.keep
          have e:back st1 sb=st1:=back_none sb st1 0 fun x hx=>by
            have:=List.all_eq_true.1 hnb x hx
            simpa using this
          rwa [e] at this
        refine ⟨⟨hId,hgood,fun b hb=>?_⟩,?_,?_,by omega,?_,fun b hB=>hsame' b (hFG' b (.inr hB)) fun e=>hBn jB (e ▸ hB)⟩
        . have hbc:=hfree s' wd wc b hb
          exact ⟨fun h=>(hgC.2.2 b hbc).1 (hGG b (hFG' b h)),(hgC.2.2 b hbc).2.1,fun i k ho=>hno ho⟩
        . refine (hFrb.trans (hF2 hfb)).but (g:=w.heap.size+1) (hFl (W:=w)) (by rw [<- hwd];rfl) (by rw [<- hwd];rfl) (by rw [<- hwd];rfl) (by omega) hod
        . intro D c e
          have e':=j3 D c e
          have hD:G D:=by
            rw [hGd]
            exact ⟨(Array.getElem?_eq_some_iff.1 e').1,fun hb=>H.nd s M1 W D _ jG.1 hb e'⟩
          rw [hsame' D hD fun h=>by rw [h,j2] at e';cases e']
          exact e'
        . refine ⟨hsize,fun k o hm=>?_,hgd.lt,hkeep,fun k hlt hno' hne=>?_⟩
          . rcases Nat.lt_or_ge k W.heap.size with hlt|hge
            . left
              by_cases hk:H.hb s W k
              . exact ⟨o,(jG.2.2 k hk).2.1 o⟩
              . exact ⟨o,hmd k o (by rw [hGd];exact ⟨hlt,hk⟩) hm⟩
            . exact .inr hge
          . refine hsame' k ?_ hne
            rw [hGd]
            exact ⟨hlt,fun hk=>hno' 0 ((jG.2.2 k hk).2.1 0)⟩
      have out:∀ (xx:X) (c:Code),jumpOf xx=some c->k xx s' st1=fin->∃ v w',(Instr.endRound (w.heap.size+1) (some c)).run P wc = .ok v w' /\
          ((Ending.returned v = .returned (.bool true)/\∃ M2,J B (i+1) M2 w'/\RoundKeeps (fun b=>b=w.heap.size+1) M1 W M2 w'/\∀ b,B b->w'.heap[b]? = W.heap[b]?)\/(Ending.returned v = .returned (.bool false)/\Jx B w'/\∃ M2,RoundKeeps (fun b=>b=w.heap.size+1) M1 W M2 w')):=by
        intro xx c hxc hkx
        obtain ⟨c1,c2,c3,c4,c5⟩:=common (rec .done (some c))
        refine ⟨_,_,hjump (some c),.inr ⟨rfl,?_,_,c5.1⟩⟩
        rw [hJx]
        exact ⟨xx,c,Mb,s',hxc,fun b hb=>⟨(jB b hb).1,c1.2.1.room b (.inr hb)⟩,c2,World.putObj_heap_same hlct,c3,c4,hsm,c1,hkx⟩
      cases xb with
      | normal =>
        obtain ⟨c1,c2,c3,c4,c5⟩:=common (rec .ready none)
        refine ⟨_,_,hjump none,.inl ⟨rfl,Mb,?_,c5⟩⟩
        rw [hJ]
        exact ⟨fun b hb=>⟨(jB b hb).1,c1.2.1.room b (.inr hb)⟩,c2,World.putObj_heap_same hlct,c3,c4,s',hsm,c1,hkb⟩
      | ret=>exact out .ret .ret rfl hkb
      | exit id=>exact out (.exit id) (.exit id) rfl hkb
    . -- the iterator's own blocks are laid
      intro B W' hs hB
      rw [hJ]
      have hs0':∀ b,(fun _=>False:Nat->Prop) b->W1.heap.size<=b/\b<W1.heap.size:=fun b h=>h.elim
      have hlt0:∀ b,B b->b<W'.heap.size:=fun b hb=>by obtain ⟨ob,e,_⟩:=(hB b hb).2;exact (Array.getElem?_eq_some_iff.1 e).1
      have hD:KeepsD W1 W':=step hs0' hs (KeepsD.refl _)
      refine ⟨fun b hb=>⟨(hB b hb).1,hlt0 b hb⟩,(hfr.trans (Fr.below hb1 hroom)).trans (frB hs0' hs),(hs.1.block _ ⟨by omega,fun h=>h⟩).trans hL1,hD,hs.1.size,s0,hs0,?_,h⟩
      have hcell:∀ (k:Nat) (ob:Obj),W1.heap[k]? = some ob->ob.isCells=true->W'.heap[k]? = some ob:=fun k ob e1 e2=>hs.2 k ob (fun h=>h) e1 e2
      have hst':Stable M W1 (fun b o=>M b o\/B b) W':=fun b o v e hn=>by
        obtain ⟨ob,e1,e2⟩:=cells_of_cell e
        refine ⟨(World.cell?_of_block (a:=⟨b,o,none⟩) (by rw [hcell b ob e1 e2,e1])).trans e,?_⟩
        rintro (h|h)
        . exact hn h
        . have h2:=(hB b h).1
          have h3:b<W1.heap.size:=cell_lt e
          omega
      have g1:Good M0 F (fun b o=>M b o\/B b) st1 a0 W' :=
        hga.world hst' hs.1.size (fun b o h=>.inl (hga.up b o h)) (fun b o h=>h.elim (fun h=>Nat.lt_of_lt_of_le (hga.lt b o h) hs.1.size) (hlt0 b)) (fun b o hF h=>h.elim (hga.down b o hF) fun h=>by have:=(hB b h).1;have:=hga.room b hF;omega) hD fun i k b ho=>(hno ho).elim
      have hIw:H.I s0 (fun b o=>M b o\/B b) W':=by
        have i1:H.I s0 M W1:=H.keep s0 M w M W1 hG1.1 (stable_below hb1) fun b hb=>hb1.block b (hh0 b w hb).1
        exact H.keep s0 M W1 _ W' i1 hst' fun b hb=>hs.1.block b ⟨by have:=(hh0 b W1 hb).1;omega,fun h=>h⟩
      refine ⟨hIw,⟨g1.defers,g1.size,fun b hb=>hb.elim (g1.room b) (hlt0 b),fun b o h=>h.imp (g1.base b o) id,fun b o h=>h.elim (g1.up b o) .inr,g1.lt,fun b o hF hm=>hF.elim (fun hF=>.inl (g1.down b o hF hm)) .inr,g1.slot,g1.one,
        fun i k b ho hF=>hno ho,g1.keep,g1.pin,fun D hD=>g1.dm D fun h=>hD (.inl h)⟩,fun b hb=>?_⟩
      have h1:=hh0 b W' hb
      exact ⟨fun h=>h.elim h1.2 fun h=>by have:=(hB b h).1;omega,fun o=>.inl ((hG1.2.2 b (hfree s0 W' w b hb)).2.1 o),fun i k ho=>hno ho⟩
    . -- behind the iterator
      have fin':∀ (B:Nat->Prop) (W2:World) (M1:Mut) (s:H.σ) (r r':Loop),(∀ b,B b->W1.heap.size<=b/\b<W2.heap.size)->Fr F w0 W2->W2.heap[w.heap.size+1]? = some (.loop r)->KeepsD W1 W2->same s=true->GoodH H (fun b=>F b\/B b) (withB M0 B) s M1 st1 a0 W2 ->
          ConcH H F M0 w0 s st1 { a with defers:=[{ target:=.collected w.heap.size,args := #[] }]++a.defers } (W2.putObj (w.heap.size+1) (.loop r')):=by
        intro B W2 M1 s r r' hB h1 h2 h3 hsm hgH
        have h4':=hgH.2.1
        have h4:Good M0 F M1 st1 a0 W2:=⟨h4'.defers,h4'.size,fun b hb=>h4'.room b (.inl hb),hg.base,fun b o h=>h4'.up b o (.inl h),h4'.lt,fun b o hF hm=>(h4'.down b o (.inl hF) hm).elim id fun h=>by have:=(hB b h).1;have:=hg.room b hF;have:=hb1.size;omega,h4'.slot,h4'.one,fun i k b ho hF=>h4'.new i k b ho (.inl hF),h4'.keep,h4'.pin,hg.dm⟩
        have hlt:=(Array.getElem?_eq_some_iff.1 h2).1
        have hc2:∀ (k:Nat) (ob:Obj),W2.heap[k]? = some ob->ob.isCells=true->(W2.putObj (w.heap.size+1) (.loop r')).heap[k]? = some ob:=fun k ob e1 e2=>by
          rw [World.putObj_heap_other fun e=>by rw [e,h2] at e1;cases e1;cases e2];exact e1
        have hkd:KeepsD W1 (W2.putObj (w.heap.size+1) (.loop r')):=fun D c e=>by
          rw [World.putObj_heap_other fun e'=>by rw [e',hL1] at e;cases e];exact h3 D c e
        refine ⟨h1.but (g:=w.heap.size+1) (hFl (W:=w)) rfl rfl rfl (by simp) fun k hk=>World.putObj_heap_other hk,M1,?_,(h4.cells hns (by simp) hc2 (by rw [ha0];trivial)).act ht0.symm (hmk1.keep hkd),fun b hb=>?_⟩
        . exact H.keep s M1 W2 M1 _ hgH.1 (stable_cells hc2) fun b hb=>World.putObj_heap_other fun e=>by
            rcases hsame s M1 W2 b hsm hgH.1 hb with h|⟨ob,e1,e2⟩
            . have:=(hh0 b W2 h).1;omega
            . rw [e,h2] at e1;cases e1;cases e2
        . have hb2:=hfree s _ W2 b hb
          exact ⟨fun h=>(hgH.2.2 b hb2).1 (.inl h),(hgH.2.2 b hb2).2.1,fun i k ho=>hno ho⟩
      rintro e W2 ⟨⟨u,rfl⟩,(⟨B,M1,hj⟩|⟨B,hj⟩)⟩
      . rw [hJ] at hj
        obtain ⟨jB,j1,j2,j3,j4,s,jsm,jG,j9⟩:=hj
        have h9:=run_endLoop (P:=P) j2 (by rw [hrec];simp)
        rw [hrec] at h9
        refine ⟨none,_,h9,?_⟩
        rw [List.drop_length] at j9
        unfold vrngH at j9
        exact hk .normal s st1 _ _ (fin' B W2 M1 s _ _ jB j1 j2 j3 jsm jG) j9
      . rw [hJx] at hj
        obtain ⟨xx,c,M1,s,j0,jB,j1,j2,j3,j4,jsm,jG,j7⟩:=hj
        have h9:=run_endLoop (P:=P) j2 (by rw [hrec];simp)
        rw [hrec] at h9
        refine ⟨some c,_,h9,?_⟩
        cases xx with
        | normal=>cases j0
        | ret=>cases j0;exact wpIn_ret (hk .ret s st1 _ _ (fin' B W2 M1 s _ _ jB j1 j2 j3 jsm jG) j7)
        | exit id=>cases j0;exact wpIn_exit (hk (.exit id) s st1 _ _ (fin' B W2 M1 s _ _ jB j1 j2 j3 jsm jG) j7)
end
end Go.V
namespace Go.V
open Go.Proofs
open Go.RowKit (Below)
structure CK where
  J:(Nat->Prop)->Nat->Mut->World->Prop
  Jx:(Nat->Prop)->World->Prop
  W:World
  l:Nat
  R:Nat->Prop
  ys:List (List Int)
  nb:Nat
  rows:Nat
  cap:Nat
  p2:Value
  p3:Value
  p4:Value
  p5:Value
  p6:Value
  lists:LLI
  sh:SHT
namespace CK
def B (K:CK):Nat->Prop:=fun b=>b=K.nb
def v (K:CK):Value:=.slice (some ⟨K.nb,0,none⟩) K.rows K.cap
def yv (K:CK):Value:=.func (.yield K.l) #[] #[]
def pf (K:CK):Value:=.func (.func 62) #[] #[K.p2,K.p3,K.p4,K.p5,K.p6]
def MB (K:CK) (M:Mut):Mut:=fun b o=>M b o\/b=K.nb
structure OK (K:CK):Prop where
  ge:K.W.heap.size<=K.nb
  inv:∀ i M1 W1,K.J K.B i M1 W1->Inv.I Try.prog W1
  step:∀ i M1 W1 W2,K.J K.B i M1 W1->IterStepB K.B K.W W1 W2->K.J K.B i M1 W2
  stepx:∀ W1 W2,K.Jx K.B W1->IterStepB K.B K.W W1 W2->K.Jx K.B W2
  rlt:∀ b,K.R b->b<K.W.heap.size
  round:∀ i M1 W1 u y,K.J K.B i M1 W1->K.ys[i]? = some y->RepV M1 W1 (.list (.int .i64)) u y->∃ fn tmps assign body,(Instr.yield K.l #[u]).run Try.prog W1 = .ok (.round K.l fn tmps assign body) W1 /\
    RoundIn Fence.wide 0 Try.prog K.l fn tmps assign body W1 fun r W2 =>
      (r = .returned (.bool true)/\∃ M2,K.J K.B (i+1) M2 W2/\RoundKeeps K.R M1 W1 M2 W2/\∀ b,K.B b->W2.heap[b]? = W1.heap[b]?)\/(r = .returned (.bool false)/\K.Jx K.B W2/\∃ M2,RoundKeeps K.R M1 W1 M2 W2)
structure At (K:CK) (now:List Int) (i:Nat) (M1:Mut) (W1:World):Prop where
  j:K.J K.B i M1 W1
  size:K.W.heap.size<=W1.heap.size
  lt:∀ b o,M1 b o->b<W1.heap.size
  now:NowAt (K.v,now) W1
  d2:RepV (K.MB M1) W1 (.ptr .raw) K.p2 K.yv
  d3:RepV (K.MB M1) W1 (.ptr .raw) K.p3 K.v
  d4:RepV (K.MB M1) W1 (.ptr (.list (.list (.int .i64)))) K.p4 K.lists
  d5:RepV (K.MB M1) W1 (.ptr SHTY) K.p5 K.sh
  d6:RepV (K.MB M1) W1 (.ptr .raw) K.p6 K.pf
theorem iterStep {K:CK} {W1 W2:World} (hs:K.W.heap.size<=W1.heap.size) (hf:Fr (fun k=>k<W1.heap.size/\k≠K.nb) W1 W2):IterStepB K.B K.W W1 W2 :=
  ⟨⟨hf.os,hf.tape,hf.output,hf.size,fun k hk=>hf.block k ⟨Nat.lt_of_lt_of_le hk.1 hs,hk.2⟩⟩,fun k ob hk e _=>(hf.block k ⟨(Array.getElem?_eq_some_iff.1 e).1,hk⟩).trans e⟩
theorem stable_go {K:CK} {M1:Mut} {W1 W2:World} (hf:Fr (fun k=>k<W1.heap.size/\k≠K.nb) W1 W2):Stable (K.MB M1) W1 (K.MB M1) W2:=fun b o v e hM=>by
  have hb:b≠K.nb:=fun h=>hM (.inr h)
  exact ⟨(World.cell?_of_block (a:=⟨b,o,none⟩) (hf.block b ⟨cell_lt e,hb⟩)).trans e,hM⟩
theorem At.mono {K:CK} {now now':List Int} {i i':Nat} {M1 M2:Mut} {W1 W2:World} (h:K.At now i M1 W1) (hj:K.J K.B i' M2 W2) (hs:W1.heap.size<=W2.heap.size) (hlt:∀ b o,M2 b o->b<W2.heap.size) (hn:NowAt (K.v,now') W2) (hst:Stable (K.MB M1) W1 (K.MB M2) W2):K.At now' i' M2 W2 :=
  ⟨hj,Nat.le_trans h.size hs,hlt,hn,RepV.mono hst h.d2,RepV.mono hst h.d3,RepV.mono hst h.d4,RepV.mono hst h.d5,RepV.mono hst h.d6⟩
theorem At.go {K:CK} (hK:K.OK) {now now':List Int} {i:Nat} {M1:Mut} {W1 W2:World} (h:K.At now i M1 W1) (hf:Fr (fun k=>k<W1.heap.size/\k≠K.nb) W1 W2) (hn:NowAt (K.v,now') W2):K.At now' i M1 W2 :=
  h.mono (hK.step _ _ _ _ h.j (iterStep h.size hf)) hf.size (fun b o hM=>Nat.lt_of_lt_of_le (h.lt b o hM) hf.size) hn (stable_go hf)
theorem At.round {K:CK} {now:List Int} {i:Nat} {M1 M2:Mut} {W1 W2:World} (h:K.At now i M1 W1) (hj:K.J K.B (i+1) M2 W2) (hk:RoundKeeps K.R M1 W1 M2 W2) (hb:∀ b,K.B b->W2.heap[b]? = W1.heap[b]?):K.At now (i+1) M2 W2/\Stable (K.MB M1) W1 (K.MB M2) W2:=by
  have hst:Stable (K.MB M1) W1 (K.MB M2) W2:=fun b o u e hM=>by
    obtain ⟨h1,h2⟩:=hk.stable b o u e fun h=>hM (.inl h)
    exact ⟨h1,fun h=>h.elim h2 fun h=>hM (.inr h)⟩
  refine ⟨h.mono hj hk.size hk.lt (now_keep h.now fun b hb'=>hb b ?_) hst,hst⟩
  have hb':ownB K.v=some b:=hb'
  unfold v at hb'
  cases hb'
  rfl
end CK
end Go.V
namespace Go.V
open Go.Proofs
open Go.RowKit (Below)
def qs:S->Bool
  | .und=>true
  | .nil=>true
  | .d _ _=>true
  | .ref _ _=>true
  | _=>false
theorem slot_q {M M':Mut} {w w':World} {st st':St} {a a':Act} {v:Value} {s:S} (hq:qs s=true) (hs:Stable M w M' w') (h:SlotOK M w st a v s):SlotOK M' w' st' a' v s:=by
  cases s with
  | und=>trivial
  | nil=>exact h
  | d t x=>exact RepV.mono hs h
  | ref t x =>
    obtain ⟨b,o,cs,e1,e2,e3,e4⟩:=h
    exact ⟨b,o,cs,e1,e2,e3.mono hs,e4.mono hs⟩
  | _=>cases hq
theorem qs_owns {st:St} (hq:∀ j,qs (get st j)=true) {a:Act} {w:World} {i:Nat} {k:Option Nat} {b:Nat}:¬ owns st a w i k b:=by
  intro ho
  have:=hq i
  cases k with
  | none=>have h:=ho.1;cases e:get st i<;>rw [e] at this h<;>first|(simp [ownS] at h;done)|(simp [qs] at this;done)
  | some k=>obtain ⟨cs,_,_,_,e,_⟩:=ho;rw [e] at this;cases this
namespace CK
def dq (K:CK) (M1:Mut) (D:Nat):Prop:=K.W.heap.size<=D/\∀ o,¬ M1 D o
structure Iv (K:CK) (cb:Nat) (now:List Int) (i:Nat) (M1:Mut) (st:St) (a:Act) (w:World):Prop where
  at_:K.At now i M1 w
  q:∀ j,qs (get st j)=true
  size:a.tmps.size=st.length
  marks:Marks (fun D=>cb<=D/\K.dq M1 D) w a.defers
  slot:∀ j,SlotOK (K.MB M1) w st a (tm a j) (get st j)
  cle:cb<=w.heap.size
def Fw (K:CK) (w:World):Nat->Prop:=fun b=>b<w.heap.size/\b≠K.nb
def Mw (K:CK) (cb:Nat) (M1:Mut) (w:World):Base:={ mu:=fun b o=>K.MB M1 b o/\K.Fw w b,ms:=K.MB M1,ws:=w,pin:=fun _=>none,dm:=fun D=>¬ K.Fw w D\/(cb<=D/\K.dq M1 D) }
theorem Iv.go {K:CK} {cb:Nat} (hK:K.OK) {now:List Int} {i:Nat} {M1:Mut} {st:St} {a:Act} {w:World} (h:K.Iv cb now i M1 st a w):ConcH HNow (K.Fw w) (K.Mw cb M1 w) w (K.v,now) st a w:=by
  have hnb:K.nb<w.heap.size:=HNow.lt (K.v,now) M1 w K.nb h.at_.now rfl
  refine ⟨Fr.refl _ _,K.MB M1,h.at_.now,⟨h.marks.imp fun D hD=>.inr hD,h.size,fun b hb=>hb.1,fun b o hm=>hm.2,fun b o hm=>hm.1,fun b o hm=>hm.elim (h.at_.lt b o) fun e=>e ▸ hnb,fun b o hF hm=>⟨hm,hF⟩,h.slot,fun i k j l b h1 _=>absurd h1 (qs_owns h.q),fun i k b h1=>absurd h1 (qs_owns h.q),stable_refl _ _,fun j v hj=>(by cases hj),fun D hD=>.inl hD⟩,fun b hb=>?_⟩
  have hb:ownB K.v=some b:=hb
  unfold v at hb
  cases hb
  exact ⟨fun hF=>hF.2 rfl,fun o=>.inr rfl,fun i k ho=>qs_owns h.q ho⟩
theorem Iv.back {K:CK} {cb:Nat} (hK:K.OK) {now now':List Int} {i:Nat} {M1:Mut} {st:St} {a':Act} {w w':World} (hcb:cb<=w.heap.size) (h:K.At now i M1 w) (hc:ConcH HNow (K.Fw w) (K.Mw cb M1 w) w (K.v,now') st a' w') (hq:∀ j,qs (get st j)=true):K.Iv cb now' i M1 st a' w'/\Fr (K.Fw w) w w':=by
  obtain ⟨hf,M2,hN,hg,hh⟩:=hc
  have hN:NowAt (K.v,now') w':=hN
  have hst:Stable M2 w' (K.MB M1) w':=fun b o u e hM=>⟨e,fun hM1=>hM (by
    rcases hM1 with hM1|rfl
    . by_cases hb:b=K.nb
      . subst hb;exact (hh K.nb rfl).2.1 o
      . exact hg.up b o ⟨.inl hM1,h.lt b o hM1,hb⟩
    . exact (hh K.nb rfl).2.1 o)⟩
  refine ⟨⟨h.go hK hf hN,hq,hg.size,?_,fun j=>slot_q (hq j) hst (hg.slot j),Nat.le_trans hcb hf.size⟩,hf⟩
  refine marks_imp (fun D hD hd=>?_) hg.defers
  rcases hD with hD|hD
  . have hne:D≠K.nb:=fun e=>by
      obtain ⟨b,cap,cells,T,⟨h1,_⟩,h2,_⟩:=hN
      have h1:K.v = .slice (some ⟨b,0,none⟩) now'.length cap:=h1
      unfold v at h1
      simp only [Value.slice.injEq,Option.some.injEq,Addr.mk.injEq,and_true] at h1
      rw [e,h1.1,h2] at hd
      cases hd
    have hge:w.heap.size<=D:=Nat.le_of_not_lt fun hlt=>hD ⟨hlt,hne⟩
    exact ⟨Nat.le_trans hcb hge,Nat.le_trans h.size hge,fun o hM=>by have:=h.lt D o hM;omega⟩
  . exact hD
end CK
end Go.V
namespace Go.V
open Go.Proofs
open Go.RowKit (Below)
namespace CK
noncomputable def loopN (K:CK) (rec:Int->List Int->List Int->Out (List (List Int)×List Int)) (row:Int) (left cands:List Int):Nat->Int->List Int->Out (List (List Int)×List Int)
  | 0,_,_=>.fail
  | n+1,i,now=>match decide (i<lenI cands) with
    | false=>.ret ([],now)
    | true=>match S113 fuel row left K.yv K.v K.lists K.sh K.pf cands (lenI cands) i now with
      | .ret (none,now1)=>K.loopN rec row left cands n (IntKind.i64.wrap (i+1)) now1
      | .ret (some rest,now1)=>(match rec (IntKind.i64.wrap (row - 1)) rest now1 with
        | .ret (ys,now2)=>(match K.loopN rec row left cands n (IntKind.i64.wrap (i+1)) now2 with
          | .ret (zs,now3)=>.ret (ys++zs,now3)
          | _=>.fail)
        | _=>.fail)
      | _=>.fail
noncomputable def fromN (K:CK):Nat->Int->List Int->List Int->Out (List (List Int)×List Int)
  | 0,_,_,_=>.fail
  | n+1,row,left,now=>match decide (row<0) with
    | true=>bif decide (now.length<1000000) then .ret ([now],now) else .fail
    | false=>bif inb row K.lists.length then K.loopN (K.fromN n) row left (K.lists.getD row.toNat []) fuel 0 now else .fail
structure Kp (K:CK) (M1:Mut) (W1:World) (M2:Mut) (W2:World):Prop where
  size:W1.heap.size<=W2.heap.size
  stable:Stable (K.MB M1) W1 (K.MB M2) W2
  def_:∀ D c,K.dq M1 D->W1.heap[D]? = some (.deferred c)->W2.heap[D]? = some (.deferred c)/\K.dq M2 D
theorem Kp.trans {K:CK} {M1 M2 M3:Mut} {W1 W2 W3:World} (h:K.Kp M1 W1 M2 W2) (h':K.Kp M2 W2 M3 W3):K.Kp M1 W1 M3 W3 :=
  ⟨Nat.le_trans h.size h'.size,h.stable.trans h'.stable,fun D c h1 h2=>let ⟨h3,h4⟩:=h.def_ D c h1 h2;h'.def_ D c h4 h3⟩
theorem Kp.fr {K:CK} {now:List Int} {i:Nat} {M1:Mut} {W1 W2:World} (h:K.At now i M1 W1) (hf:Fr (K.Fw W1) W1 W2):K.Kp M1 W1 M1 W2 :=
  ⟨hf.size,stable_go hf,fun D c h1 h2=>⟨(hf.block D ⟨(Array.getElem?_eq_some_iff.1 h2).1,fun e=>by
    obtain ⟨b,cap,cells,T,⟨g1,_⟩,g2,_⟩:=h.now
    have g1:K.v = .slice (some ⟨b,0,none⟩) now.length cap:=g1
    unfold v at g1
    simp only [Value.slice.injEq,Option.some.injEq,Addr.mk.injEq,and_true] at g1
    rw [e,g1.1,g2] at h2
    cases h2⟩).trans h2,h1⟩⟩
theorem Kp.round {K:CK} (hK:K.OK) {now:List Int} {i:Nat} {M1 M2:Mut} {W1 W2:World} (h:K.At now i M1 W1) (hj:K.J K.B (i+1) M2 W2) (hk:RoundKeeps K.R M1 W1 M2 W2) (hb:∀ b,K.B b->W2.heap[b]? = W1.heap[b]?):K.Kp M1 W1 M2 W2 :=
  ⟨hk.size,(h.round hj hk hb).2,fun D c h1 h2=>by
    have hlt:=(Array.getElem?_eq_some_iff.1 h2).1
    refine ⟨(hk.same D hlt h1.2 fun hR=>by have:=hK.rlt D hR;have:=h1.1;omega).trans h2,h1.1,fun o hM=>?_⟩
    rcases hk.new D o hM with ⟨o',h'⟩|h'
    . exact h1.2 o' h'
    . omega⟩
theorem Iv.step {K:CK} {cb:Nat} {now now':List Int} {i i':Nat} {M1 M2:Mut} {st:St} {a:Act} {w w':World} (h:K.Iv cb now i M1 st a w) (ha:K.At now' i' M2 w') (hk:K.Kp M1 w M2 w'):K.Iv cb now' i' M2 st a w':=by
  refine ⟨ha,h.q,h.size,?_,fun j=>slot_q (h.q j) hk.stable (h.slot j),Nat.le_trans h.cle hk.size⟩
  have key:∀ ds:List Deferred,Marks (fun D=>cb<=D/\K.dq M1 D) w ds->Marks (fun D=>cb<=D/\K.dq M2 D) w' ds:=by
    intro ds
    induction ds with
    | nil=>intro _;trivial
    | cons d ds ih =>
      rintro ⟨⟨D,e1,e2,e3⟩,h2,h3⟩
      obtain ⟨f1,f2⟩:=hk.def_ D _ e3.2 e2
      exact ⟨⟨D,e1,f1,e3.1,f2⟩,h2,ih h3⟩
  exact key _ h.marks
theorem get_set_q {st:St} (hq:∀ j,qs (get st j)=true) (d:Nat) {s:S} (hs:qs s=true):∀ j,qs (get (st.set d s) j)=true:=by
  intro j
  by_cases hd:d<st.length
  . rw [get_set _ _ _ _ hd]
    split
    . exact hs
    . exact hq j
  . rw [List.set_eq_of_length_le (by omega)]
    exact hq j
theorem Iv.put {K:CK} {cb:Nat} {now:List Int} {i:Nat} {M1:Mut} {st:St} {a:Act} {w:World} (h:K.Iv cb now i M1 st a w) {d:Nat} (hd:d<st.length) {s:S} (hs:qs s=true) {u:Value} (hu:SlotOK (K.MB M1) w st a u s):K.Iv cb now i M1 (st.set d s) (a.put (some d) u) w:=by
  have hda:d<a.tmps.size:=by rw [h.size];exact hd
  refine ⟨h.at_,get_set_q h.q d hs,by rw [size_put,h.size,List.length_set],by rw [defers_put];exact h.marks,fun j=>?_,h.cle⟩
  rw [get_set _ _ _ _ hd]
  by_cases e:j=d
  . subst e
    rw [if_pos rfl,tm_put_same hda]
    exact slot_q hs (stable_refl _ _) hu
  . rw [if_neg e,tm_put_other (by omega)]
    exact slot_q (h.q j) (stable_refl _ _) (h.slot j)
theorem Iv.mask {K:CK} {cb:Nat} {now:List Int} {i:Nat} {M1:Mut} {st st':St} {a:Act} {w:World} (h:K.Iv cb now i M1 st a w) (hl:st'.length=st.length) (hm:∀ j,get st' j = .und\/get st' j=get st j):K.Iv cb now i M1 st' a w:=by
  refine ⟨h.at_,fun j=>?_,by rw [h.size,hl],h.marks,fun j=>?_,h.cle⟩
  . rcases hm j with e|e<;>rw [e]
    . rfl
    . exact h.q j
  . rcases hm j with e|e
    . rw [e];trivial
    . rw [e];exact slot_q (h.q j) (stable_refl _ _) (h.slot j)
theorem piece {K:CK} {cb:Nat} (hK:K.OK) {c:Code} {hints:List (Nat×List Nat)} {N:Nat} {now:List Int} {i:Nat} {M1:Mut} {st st':St} {a:Act} {w:World} (h:K.Iv cb now i M1 st a w) {x:X}
    (hv:vhq Try.prog HNow (phi []) hints N c [] (fun x s st=>(.ret (x,s,st):Out (X×NW×St))) (K.v,now) st = .ret (x,(K.v,now),st')) (hq:∀ j,qs (get st' j)=true) {n:Nat} {Q:Exit->Act->World->Prop}
    (next:∀ a' w',K.Iv cb now i M1 st' a' w'->K.Kp M1 w M1 w'->Q x.exit' a' w'):c.wpIn (fen none) n Try.prog Q a w:=by
  refine vhq_ok (phi_ok all_nil) mixed hints N (fin:=.ret (x,(K.v,now),st')) (by simp) (by simp) c [] allQ_nil (K.Fw w) (K.Mw cb M1 w) w n (fun w' _=>trivial) (fun j v hj=>by cases hj) _ Q ?_ _ _ _ _ (h.go hK) hv
  intro x' s' st2 a' w' hc hx
  cases hx
  obtain ⟨h1,h2⟩:=Iv.back hK h.cle h.at_ hc hq
  exact next a' w' h1 (Kp.fr h.at_ h2)
end CK
end Go.V
namespace Go.V
open Go.Proofs
open Go.RowKit (Below)
def Mk (q:Nat->Prop) (w w':World):Prop:=Fr (fun b=>b<w.heap.size/\(q b->∀ c,w.heap[b]? ≠ some (.deferred c))) w w'
theorem leave_marks {fn:Func} {n:Nat} {tmps:Array Value} {R:Ending->World->Prop} {mode:FrameMode} (hmode:mode ≠ .run) {ds:List Deferred} {w:World} {q:Nat->Prop} (hm:Marks q w ds)
    (hR:∀ w2,Mk q w w2->LeavesIn Fence.wide n Try.prog fn tmps R [] mode w2):LeavesInM Fence.wide n Try.prog fn tmps R ds mode w:=by
  refine leave (M0:={ mu:=fun _ _=>False,ms:=fun _ _=>True,ws:=w,pin:=fun _=>none,dm:=fun D=>¬ (D<w.heap.size/\(q D->∀ c,w.heap[D]? ≠ some (.deferred c))) }) (F:=fun b=>b<w.heap.size/\(q b->∀ c,w.heap[b]? ≠ some (.deferred c))) (M:=fun _ _=>False) (w0:=w) (st:=List.replicate tmps.size .und) hmode (fun M w2 hg hf=>hR w2 hf) (fun D hD=>hD) ds w ?_ (Fr.refl _ _)
  have gu:∀ j,get (List.replicate tmps.size S.und) j = .und:=fun j=>get_repl _ j
  have hno:∀ {a:Act} {w:World} {i:Nat} {k:Option Nat} {b:Nat},¬ owns (List.replicate tmps.size S.und) a w i k b:=fun {a w i k b}=>qs_owns fun j=>by rw [gu];rfl
  exact ⟨marks_imp (fun D hD hd=>fun h=>h.2 hD _ hd) hm,by simp,fun b hb=>hb.1,fun _ _ h=>h.elim,fun _ _ h=>h.elim,fun _ _ h=>h.elim,fun _ _ _ h=>h.elim,fun i=>by rw [gu];trivial,fun i k j l b h=>(hno h).elim,fun i k b h=>(hno h).elim,fun b o v e h=>(h trivial).elim,fun j v hj=>(by cases hj),fun D hD=>hD⟩
noncomputable def r113_15:Array Oper:=regAt 15 (bodyOf Try.f62)
theorem info113_15:r113_15.toList.map opInfo=[(some 73,.load 107 (.tmp 6),none),(some 74,.move (.tmp 0),none),(some 75,.binOp .sub 3 (.tmp 74) (.const (.int .i64 1)) 3,none),(some 76,.move (.tmp 12),none),
  (some 77,.call { callee:=.value (.tmp 73),args := #[.tmp 75,.tmp 76],argTypes := #[3,22] },none),(some 78,.unOp .not 4 (.tmp 77),none)]:=by kernel_rfl
section
variable {a : Act} {w : World} {o : Oper}
theorem ex_loadRaw {T p:Nat} (hty:tyOf Try.prog 9 T=some .raw) (ho:o.op = .load T (.tmp p)) {M:Mut} {x:Value} {st:St} (h:SlotOK M w st a (tm a p) (.ref .raw x)):(execOp a.eval o).run Try.prog w = .ok (.value x) w:=by
  obtain ⟨b,off,cs,e1,e2,e3,e4⟩:=h
  have e5:=e4.1
  subst e5
  have e0:a.eval (.tmp p) = .pointer (some ⟨b,off,none⟩):=e1
  simp [execOp,ho,e0,Instr.loadAt,Instr.sureAddr,run_loadVar hty e2 fun j hj=>(e3 j hj).1]
  rfl
theorem ex_sub1 {p:Nat} (ho:o.op = .binOp .sub 3 (.tmp p) (.const (.int .i64 1)) 3) {x:Int} (h:tm a p = .int .i64 x):(execOp a.eval o).run Try.prog w = .ok (.value (.int .i64 (IntKind.i64.wrap (x - 1)))) w:=by
  have e1:a.eval (.tmp p) = .int .i64 x:=h
  have e2:a.eval (.const (.int .i64 1)) = .int .i64 1:=rfl
  have e3:(binOp .sub 3 (.int .i64 x) (.int .i64 1)).run Try.prog w = .ok (.int .i64 (IntKind.i64.wrap (x - 1))) w:=by simp [binOp,Op.intArith]
  simp [execOp,ho,e1,e2,eqG_int,e3]
theorem ex_rec (ho:o.op = .call { callee:=.value (.tmp 73),args := #[.tmp 75,.tmp 76],argTypes := #[3,22] }) {u v:Value} {pc:Array Value} (h0:tm a 73 = .func (.func 62) #[] pc) (h1:tm a 75=u) (h2:tm a 76=v):(execOp a.eval o).run Try.prog w = .ok (.enter 62 (#[] ++ #[u,v]++pc)) w:=by
  have e0:a.eval (.tmp 73) = .func (.func 62) #[] pc:=h0
  have e1:a.eval (.tmp 75)=u:=h1
  have e2:a.eval (.tmp 76)=v:=h2
  have e3:=fun args=>enters_run (P:=Try.prog) (g:=62) (by kernel_rfl) args w
  simp [execOp,ho,resolve,e0,e1,e2,Deferred.ofValue,invoke,e3]
theorem ex_not {p:Nat} (ho:o.op = .unOp .not 4 (.tmp p)) {b:Bool} (h:tm a p = .bool b):(execOp a.eval o).run Try.prog w = .ok (.value (.bool (!b))) w:=by
  have e1:a.eval (.tmp p) = .bool b:=h
  simp [execOp,ho,e1,Op.unary]
end
namespace CK
def Kd (K:CK) (M1:Mut) (W1 W2:World):Prop:=W1.heap.size<=W2.heap.size/\∀ D c,K.dq M1 D->W1.heap[D]? = some (.deferred c)->W2.heap[D]? = some (.deferred c)
theorem Kd.marks {K:CK} {cb:Nat} {M1:Mut} {W1 W2:World} (h:K.Kd M1 W1 W2):∀ {ds:List Deferred},Marks (fun D=>cb<=D/\K.dq M1 D) W1 ds->Marks (fun D=>cb<=D) W2 ds
  | [],_=>trivial
  | _ :: _,⟨⟨D,e1,e2,e3⟩,h2,h3⟩=>⟨⟨D,e1,h.2 D _ e3.2 e2,e3.1⟩,h2,Kd.marks h h3⟩
def Post (K:CK) (now:List Int) (i:Nat) (M1:Mut) (W1:World) (e:Ending) (w':World):Prop :=
  (e = .returned (.bool true)/\∃ M2,K.At now i M2 w'/\K.Kp M1 W1 M2 w')\/(e = .returned (.bool false)/\K.Jx K.B w'/\K.Kd M1 W1 w')
theorem r15_wp {K:CK} {cb:Nat} (hK:K.OK) {now rest:List Int} {i:Nat} {M1:Mut} {st:St} {a:Act} {w:World} {row:Int} (h:K.Iv cb now i M1 st a w) (hl:st.length=80) (h0:get st 0 = .d (.int .i64) row) (h6:get st 6 = .ref .raw K.pf) (h12:get st 12 = .d (.list (.int .i64)) rest)
    {i2:Nat} {now2:List Int} (hrec:∀ u,RepV (K.MB M1) w (.list (.int .i64)) u rest->Calls Try.prog 62 #[.int .i64 (IntKind.i64.wrap (row - 1)),u,K.p2,K.p3,K.p4,K.p5,K.p6] w (K.Post now2 i2 M1 w))
    {n:Nat} {Q:Exit->Act->World->Prop}
    (hT:∀ M2 a' w',K.Iv cb now2 i2 M2 (((((((st.set 73 .und).set 74 .und).set 75 .und).set 76 .und).set 77 .und)).set 78 (.d .bool false)) a' w'->K.Kp M1 w M2 w'->Q .normal a' w')
    (hF:∀ a' w',K.Jx K.B w'->K.Kd M1 w w'->Marks (fun D=>cb<=D) w' a'.defers->a'.tmps.size=80->tm a' 78 = .bool true->Q .normal a' w') :
    (Code.region 15 r113_15 false).wpIn (fen none) n Try.prog Q a w:=by
  have hsz:a.tmps.size=80:=h.size.trans hl
  obtain ⟨o0,i0,d0,p0,q0⟩:=infoAt info113_15 (i:=0) rfl
  obtain ⟨o1,i1,d1,p1,q1⟩:=infoAt info113_15 (i:=1) rfl
  obtain ⟨o2,i2',d2,p2,q2⟩:=infoAt info113_15 (i:=2) rfl
  obtain ⟨o3,i3,d3,p3,q3⟩:=infoAt info113_15 (i:=3) rfl
  obtain ⟨o4,i4,d4,p4,q4⟩:=infoAt info113_15 (i:=4) rfl
  obtain ⟨o5,i5,d5,p5,q5⟩:=infoAt info113_15 (i:=5) rfl
  simp only at d0 p0 q0 d1 p1 q1 d2 p2 q2 d3 p3 q3 d4 p4 q4 d5 p5 q5
  have s0:=h.slot 0
  rw [h0] at s0
  have t0:tm a 0 = .int .i64 row:=slot_int s0
  have s6:=h.slot 6
  rw [h6] at s6
  have s12:=h.slot 12
  rw [h12] at s12
  refine wpIn_region ?_
  have hsize:r113_15.size=6:=by kernel_rfl
  rw [hsize]
  show wpOpsIn (fen none) n Try.prog r113_15 Q [0,1,2,3,4,5] a w
  rw [wpOpsIn_cons]
  refine opn_value i0 (wanted_none q0) (fun c h=>by rw [p0] at h;cases h) (ex_loadRaw (by kernel_rfl) p0 s6) ?_
  rw [d0,wpOpsIn_cons]
  refine opn_value i1 (wanted_none q1) (fun c h=>by rw [p1] at h;cases h) (ex_move p1) ?_
  rw [d1,tm_put_other (by omega),t0,wpOpsIn_cons]
  refine opn_value i2' (wanted_none q2) (fun c h=>by rw [p2] at h;cases h) (ex_sub1 p2 (tm_put_same (by rw [size_put];omega))) ?_
  rw [d2,wpOpsIn_cons]
  refine opn_value i3 (wanted_none q3) (fun c h=>by rw [p3] at h;cases h) (ex_move p3) ?_
  rw [d3,tm_put_other (by omega),tm_put_other (by omega),tm_put_other (by omega),wpOpsIn_cons]
  have h1:=((((h.put (d:=73) (s:=.und) (u:=K.pf) (by omega) rfl trivial).put (d:=74) (s:=.und) (u:=.int .i64 row) (by simp;omega) rfl trivial).put (d:=75) (s:=.und) (u:=.int .i64 (IntKind.i64.wrap (row - 1))) (by simp;omega) rfl trivial).put (d:=76) (s:=.und) (u:=tm a 12) (by simp;omega) rfl trivial)
  refine opn_enter i4 (wanted_none q4) (fun c h=>by rw [p4] at h;cases h) (ex_rec p4 (pc := #[K.p2,K.p3,K.p4,K.p5,K.p6]) (u:=.int .i64 (IntKind.i64.wrap (row - 1))) (v:=tm a 12) ?_ ?_ ?_) ((hrec (tm a 12) s12).mono ?_)
  . rw [tm_put_other (by omega),tm_put_other (by omega),tm_put_other (by omega),tm_put_same (by omega)];rfl
  . rw [tm_put_other (by omega),tm_put_same (by simp only [size_put];omega)]
  . rw [tm_put_same (by simp only [size_put];omega)]
  . rintro e w' (⟨rfl,M2,g1,g2⟩|⟨rfl,g1,g2⟩)
    . refine ⟨_,rfl,?_⟩
      rw [d4,wpOpsIn_cons]
      refine opn_value i5 (wanted_none q5) (fun c h=>by rw [p5] at h;cases h) (ex_not p5 (tm_put_same (by simp only [size_put];omega))) ?_
      rw [d5]
      exact hT M2 _ _ (((h1.step g1 g2).put (d:=77) (s:=.und) (u:=.bool true) (by simp;omega) rfl trivial).put (d:=78) (s:=.d .bool false) (u:=.bool false) (by simp;omega) rfl (mk_bool _)) g2
    . refine ⟨_,rfl,?_⟩
      rw [d4,wpOpsIn_cons]
      refine opn_value i5 (wanted_none q5) (fun c h=>by rw [p5] at h;cases h) (ex_not p5 (tm_put_same (by simp only [size_put];omega))) ?_
      rw [d5]
      refine hF _ _ g1 g2 ?_ (by simp only [size_put];exact hsz) (tm_put_same (by simp only [size_put];omega))
      simp only [defers_put]
      exact Kd.marks g2 h.marks
end CK
end Go.V
namespace Go.V
open Go.Proofs
open Go.RowKit (Below)
theorem arr_rep {M M':Mut} {w:World} {v:Value} {xs:List Int} (h:ArrAt M w (.int .i64) v xs) (hM:∀ g,ownB v=some g->∀ o,¬ M' g o):RepV M' w (.list (.int .i64)) v xs:=by
  rcases h with ⟨rfl,rfl⟩|⟨g,cap,cells,T,rfl,hh,h1,_,h2,_,h3⟩
  . exact ⟨[.slice none 0 0],rfl,RepC.list_nil _⟩
  . refine ⟨[_],rfl,some ⟨g,0,none⟩,cap,rfl,h1,fun i hi=>⟨g,0,[.int .i64 xs[i]],rfl,rfl,fun j hj=>?_,rfl⟩⟩
    have hi:i<List.length (α:=Int) xs:=hi
    have hj:j=0:=by simpa using hj
    subst hj
    refine ⟨?_,hM g rfl _⟩
    show w.cell? ⟨g,0+i * 1+0,none⟩=some (.int .i64 (List.get (α:=Int) xs ⟨i,hi⟩))
    have h4:(cells.toList.drop (i * 1)).take 1=[.int .i64 xs[i]]:=h3 i hi
    have e9:0+i * 1+0=i:=by omega
    rw [e9,cell_of_row w g i cells T (0,0) hh]
    rw [Nat.mul_one] at h4
    have h5:(cells.toList.drop i)[0]? = some (.int .i64 xs[i]):=by
      have:=congrArg (·[0]?) h4
      simpa [List.getElem?_take] using this
    rw [List.getElem?_drop,Nat.add_zero,Array.getElem?_toList] at h5
    exact h5
namespace CK
theorem Iv.from {K:CK} {cb:Nat} (hK:K.OK) {now now':List Int} {i:Nat} {M1:Mut} {st st':St} {a':Act} {w w':World} (hcb:cb<=w.heap.size) (h:K.At now i M1 w) (hc:ConcH HNow (K.Fw w) (K.Mw cb M1 w) w (K.v,now') st' a' w') (hl:st.length=st'.length) (hq:∀ j,get st j = .und\/(get st j=get st' j/\qs (get st j)=true)):K.Iv cb now' i M1 st a' w'/\K.Kp M1 w M1 w':=by
  obtain ⟨hf,M2,hN,hg,hh⟩:=hc
  have hu:K.Iv cb now' i M1 (List.replicate st'.length .und) a' w'/\Fr (K.Fw w) w w':=Iv.back hK hcb h ⟨hf,M2,hN,hg.mask (by simp) (fun j=>.inl (get_repl _ _)) (fun j v hj=>by cases hj),fun b hb=>⟨(hh b hb).1,(hh b hb).2.1,fun i k ho=>qs_owns (fun j=>by rw [get_repl];rfl) ho⟩⟩ (fun j=>by rw [get_repl];rfl)
  have hst:Stable M2 w' (K.MB M1) w':=fun b o u e hM=>⟨e,fun hM1=>hM (by
    rcases hM1 with hM1|rfl
    . by_cases hb:b=K.nb
      . subst hb;exact (hh K.nb rfl).2.1 o
      . exact hg.up b o ⟨.inl hM1,h.lt b o hM1,hb⟩
    . exact (hh K.nb rfl).2.1 o)⟩
  refine ⟨⟨hu.1.at_,fun j=>?_,by rw [hl];exact hg.size,hu.1.marks,fun j=>?_,hu.1.cle⟩,Kp.fr h hu.2⟩
  . rcases hq j with e|e
    . rw [e];rfl
    . exact e.2
  . rcases hq j with e|e
    . rw [e];trivial
    . have:=hg.slot j
      rw [<- e.1] at this
      exact slot_q e.2 hst this
theorem arr_new {K:CK} {cb:Nat} {now:List Int} {i:Nat} {M1:Mut} {s:NW} {st':St} {a':Act} {w w':World} (h:K.At now i M1 w) (hs:s.1=K.v) (hc:ConcH HNow (K.Fw w) (K.Mw cb M1 w) w s st' a' w') {j:Nat} {xs:List Int} {f:Bool} (hj:get st' j = .arr (.int .i64) xs f):RepV (K.MB M1) w' (.list (.int .i64)) (tm a' j) xs:=by
  obtain ⟨hf,M2,hN,hg,hh⟩:=hc
  have hsl:=hg.slot j
  rw [hj] at hsl
  refine arr_rep hsl fun g hgo o=>?_
  have ho:owns st' a' w' j none g:=⟨by rw [hj];rfl,hgo⟩
  have hne:g≠K.nb:=fun e=>(hh K.nb (by show ownB s.1=_;rw [hs];rfl)).2.2 j none (e ▸ ho)
  have hge:w.heap.size<=g:=Nat.le_of_not_lt fun hlt=>hg.new j none g ho ⟨hlt,hne⟩
  rintro (hM|e)
  . have:=h.lt g o hM
    omega
  . exact hne e
theorem Iv.slotAt {K:CK} {cb:Nat} {now:List Int} {i:Nat} {M1:Mut} {st:St} {a:Act} {w:World} (h:K.Iv cb now i M1 st a w) {d:Nat} {s:S} (hs:qs s=true) (hu:SlotOK (K.MB M1) w st a (tm a d) s):K.Iv cb now i M1 (st.set d s) a w:=by
  refine ⟨h.at_,get_set_q h.q d hs,by rw [h.size,List.length_set],h.marks,fun j=>?_,h.cle⟩
  by_cases hd:d<st.length
  . rw [get_set _ _ _ _ hd]
    by_cases e:j=d
    . subst e
      rw [if_pos rfl]
      exact slot_q hs (stable_refl _ _) hu
    . rw [if_neg e]
      exact slot_q (h.q j) (stable_refl _ _) (h.slot j)
  . rw [List.set_eq_of_length_le (by omega)]
    exact h.slot j
end CK
end Go.V
namespace Go.V
open Go.Proofs
open Go.RowKit (Below)
def isUnd:S->Bool | .und=>true|_=>false
theorem isUnd_eq {s:S} (h:isUnd s=true):s = .und:=by cases s<;>first|rfl|cases h
def keep113:List Nat:=[0,1,2,3,4,5,6,24,25,26]
section
variable {row : Int} {left : List Int} {yv v : Value} {lists : LLI} {sh : SHT} {pf : Value} {cands : List Int} {len i : Int}
theorem st113_len:(st113 row left yv v lists sh pf cands len i).length=80:=rfl
theorem st113_all:((List.range 80).all fun j=>isUnd (get (st113 row left yv v lists sh pf cands len i) j) || (keep113.contains j && qs (get (st113 row left yv v lists sh pf cands len i) j)))=true:=by kernel_rfl
theorem st113_or (j:Nat):get (st113 row left yv v lists sh pf cands len i) j = .und\/(j∈keep113/\qs (get (st113 row left yv v lists sh pf cands len i) j)=true):=by
  by_cases hj:j<80
  . have:=List.all_eq_true.1 (st113_all (row:=row) (left:=left) (yv:=yv) (v:=v) (lists:=lists) (sh:=sh) (pf:=pf) (cands:=cands) (len:=len) (i:=i)) j (List.mem_range.2 hj)
    rcases Bool.or_eq_true_iff.1 this with h|h
    . exact .inl (isUnd_eq h)
    . rw [Bool.and_eq_true] at h
      exact .inr ⟨by simpa using h.1,h.2⟩
  . refine .inl ?_
    unfold get
    rw [List.getD_eq_getElem?_getD,List.getElem?_eq_none (by rw [st113_len];omega)]
    rfl
theorem kpS_spec {s:NW} {st:St} (h:kpS row left yv v lists sh pf cands len i s st=true):s.1=v/\st.length=80/\∀ j∈keep113,get (st113 row left yv v lists sh pf cands len i) j=get st j:=by
  unfold kpS at h
  cases hl:st.length==80 with
  | false=>rw [hl] at h;cases h
  | true =>
  rw [hl] at h
  dsimp only [cond_true] at h
  split at h
  rotate_left
  . cases h
  rename_i r0 r1 r2 r3 r4 r5 r6 r7 r8 r9 e0 e1 e2 e3 e4 e5 e6 e24 e25 e26
  unfold kp at h
  simp only [Bool.and_eq_true] at h
  obtain ⟨h0,h1,h2,h3,h4,h5,h6,h7,h8,h9,h10⟩:=h
  have h0:=same_eq h0
  have h1:=same_eq h1
  have h2:=same_eq h2
  have h3:=same_eq h3
  have h4:=same_eq h4
  have h5:=same_eq h5
  have h6:=same_eq h6
  have h7:=same_eq h7
  have h8:=same_eq h8
  have h9:=same_eq h9
  have h10:=same_eq h10
  refine ⟨h10,by simpa using hl,fun j hj=>?_⟩
  simp only [keep113,List.mem_cons,List.not_mem_nil,or_false] at hj
  rcases hj with rfl|rfl|rfl|rfl|rfl|rfl|rfl|rfl|rfl|rfl
  . rw [e0,h0];rfl
  . rw [e1,h1];rfl
  . rw [e2,h2];rfl
  . rw [e3,h3];rfl
  . rw [e4,h4];rfl
  . rw [e5,h5];rfl
  . rw [e6,h6];rfl
  . rw [e24,h7];rfl
  . rw [e25,h8];rfl
  . rw [e26,h9];rfl
end
theorem mask_set {stK st:St} {d:Nat} {s:S} (h:∀ j,get stK j = .und\/get stK j=get st j) (hd:get stK d = .und):∀ j,get stK j = .und\/get stK j=get (st.set d s) j:=by
  intro j
  by_cases e:j=d
  . subst e;exact .inl hd
  . rcases h j with h|h
    . exact .inl h
    . exact .inr (h.trans (get_setne e).symm)
noncomputable def r113_4:Array Oper:=regAt 4 (bodyOf Try.f62)
noncomputable def r113_16:Array Oper:=regAt 16 (bodyOf Try.f62)
noncomputable def r113_17:Array Oper:=regAt 17 (bodyOf Try.f62)
noncomputable def lb113:Code:=match codeAt [1,0,1,1,0,1,0,0] (bodyOf Try.f62) with|some c=>c|none=>.skip
theorem lb113_eq:lb113 = .seq (.region 4 r113_4 false) (.seq (.cond (.tmp 27) .skip (.exit 0)) (.seq (.block 1 (at113 [])) (.region 17 r113_17 false))):=by kernel_rfl
theorem tail113_eq:at113 [1,1,1,1] = .seq (.region 15 r113_15 false) (.cond (.tmp 78) (.seq (.region 16 r113_16 false) .ret) .skip):=by kernel_rfl
section
variable (row : Int) (left : List Int) (yv v : Value) (lists : LLI) (sh : SHT) (pf : Value) (cands : List Int) (len i : Int) (s : NW)
theorem e113_4:vhq Try.prog HNow (phi []) [] 1 (.region 4 r113_4 false) [] (fun x s st=>(.ret (x,s,st):Out (X×NW×St))) s (st113 row left yv v lists sh pf cands len i) = .ret (.normal,s,(st113 row left yv v lists sh pf cands len i).set 27 (.d .bool (decide (i<len)))):=by kernel_rfl
theorem e113_17:vhq Try.prog HNow (phi []) [] 1 (.region 17 r113_17 false) [] (fun x s st=>(.ret (x,s,st):Out (X×NW×St))) s (st113 row left yv v lists sh pf cands len i) = .ret (.normal,s,((st113 row left yv v lists sh pf cands len i).set 79 (.d (.int .i64) (IntKind.i64.wrap (i+1)))).set 26 (.d (.int .i64) (IntKind.i64.wrap (i+1)))):=by kernel_rfl
end
theorem info113_16:r113_16.toList.map opInfo=[(some 9,.assign (.const (.bool false)),none)]:=by kernel_rfl
end Go.V
namespace Go.V
open Go.Proofs
open Go.RowKit (Below)
theorem ex_assignB {a:Act} {w:World} {o:Oper} {b:Bool} (ho:o.op = .assign (.const (.bool b))):(execOp a.eval o).run Try.prog w = .ok (.value (.bool b)) w:=by
  simp [execOp,ho,Act.eval]
theorem r16_wp {n:Nat} {Q:Exit->Act->World->Prop} {a:Act} {w:World} (hsz:a.tmps.size=80) (hQ:∀ a':Act,a'.tmps.size=80->a'.defers=a.defers->tm a' 9 = .bool false->Q .ret a' w):(Code.seq (.region 16 r113_16 false) .ret).wpIn (fen none) n Try.prog Q a w:=by
  obtain ⟨o0,i0,d0,p0,q0⟩:=infoAt info113_16 (i:=0) rfl
  simp only at d0 p0 q0
  refine wpIn_seq (wpIn_region ?_)
  have hsize:r113_16.size=1:=by kernel_rfl
  rw [hsize]
  show wpOpsIn (fen none) n Try.prog r113_16 _ [0] a w
  rw [wpOpsIn_cons]
  refine opn_value i0 (wanted_none q0) (fun c h=>by rw [p0] at h;cases h) (ex_assignB p0) ?_
  rw [d0]
  exact wpIn_ret (hQ _ (by rw [size_put];exact hsz) defers_put (tm_put_same (by omega)))
namespace CK
theorem Kp.kd {K:CK} {M1 M2:Mut} {W1 W2 W3:World} (h:K.Kp M1 W1 M2 W2) (h':K.Kd M2 W2 W3):K.Kd M1 W1 W3:=⟨Nat.le_trans h.size h'.1,fun D c h1 h2=>let ⟨h3,h4⟩:=h.def_ D c h1 h2;h'.2 D c h4 h3⟩
theorem Kp.kdd {K:CK} {M1 M2:Mut} {W1 W2:World} (h:K.Kp M1 W1 M2 W2):K.Kd M1 W1 W2:=⟨h.size,fun D c h1 h2=>(h.def_ D c h1 h2).1⟩
def RecOK (K:CK) (rec:Int->List Int->List Int->Out (List (List Int)×List Int)):Prop :=
  ∀ row rest now r i M1 w u,K.At now i M1 w->RepV (K.MB M1) w (.list (.int .i64)) u rest->rec row rest now = .ret r->(∀ j y,r.1[j]? = some y->K.ys[i+j]? = some y)->Calls Try.prog 62 #[.int .i64 row,u,K.p2,K.p3,K.p4,K.p5,K.p6] w (K.Post r.2 (i+r.1.length) M1 w)
theorem loop113 {K:CK} {cb:Nat} (hK:K.OK) {rec:Int->List Int->List Int->Out (List (List Int)×List Int)} (hrec:K.RecOK rec) {row:Int} {left cands:List Int} {Q:Exit->Act->World->Prop} :
    ∀ (n:Nat) (i:Int) (now:List Int) (r:List (List Int)×List Int) (i0:Nat) (M1:Mut) (a:Act) (w:World),K.Iv cb now i0 M1 (st113 row left K.yv K.v K.lists K.sh K.pf cands (lenI cands) i) a w->K.loopN rec row left cands n i now = .ret r->(∀ j y,r.1[j]? = some y->K.ys[i0+j]? = some y) ->
      (∀ M2 st a' w',K.Iv cb r.2 (i0+r.1.length) M2 st a' w'->st.length=80->K.Kp M1 w M2 w'->Q (.exit 0) a' w')->(∀ a' w',K.Jx K.B w'->K.Kd M1 w w'->Marks (fun D=>cb<=D) w' a'.defers->a'.tmps.size=80->tm a' 9 = .bool false->Q .ret a' w') ->
      Code.roundsIn (fen none) 0 Try.prog lb113 Q n a w:=by
  intro n
  induction n with
  | zero=>intro i now r i0 M1 a w _ h;cases h
  | succ n ih =>
    intro i now r i0 M1 a w h hr hys hQ0 hQr
    have cont:∀ (now1:List Int) (i1:Nat) (M2:Mut) (a':Act) (w':World) (r1:List (List Int)×List Int),K.Iv cb now1 i1 M2 (st113 row left K.yv K.v K.lists K.sh K.pf cands (lenI cands) i) a' w'->K.Kp M1 w M2 w'->K.loopN rec row left cands n (IntKind.i64.wrap (i+1)) now1 = .ret r1->(∀ j y,r1.1[j]? = some y->K.ys[i1+j]? = some y) ->
        r.2=r1.2->i0+r.1.length=i1+r1.1.length->(Code.region 17 r113_17 false).wpIn (fen none) 0 Try.prog (Exit.then (Code.roundsIn (fen none) 0 Try.prog lb113 Q n) Q) a' w':=by
      intro now1 i1 M2 a' w' r1 h1 k1 hr1 hys1 e1 e2
      refine piece hK h1 (e113_17 _ _ _ _ _ _ _ _ _ _ _) (get_set_q (get_set_q h1.q 79 rfl) 26 rfl) fun a2 w2 h2 k2=>?_
      have h3:K.Iv cb now1 i1 M2 (st113 row left K.yv K.v K.lists K.sh K.pf cands (lenI cands) (IntKind.i64.wrap (i+1))) a2 w2:=h2.mask rfl fun j=>by
        by_cases ej:j=26
        . subst ej
          refine .inr ?_
          rw [get_set _ _ _ _ (by rw [List.length_set,st113_len];omega),if_pos rfl]
          rfl
        . rw [get_setne ej]
          have e:st113 row left K.yv K.v K.lists K.sh K.pf cands (lenI cands) (IntKind.i64.wrap (i+1))=(st113 row left K.yv K.v K.lists K.sh K.pf cands (lenI cands) i).set 26 (.d (.int .i64) (IntKind.i64.wrap (i+1))):=rfl
          rw [e,get_setne ej]
          by_cases ek:j=79
          . subst ek;exact .inl rfl
          . exact .inr (get_setne ek).symm
      have k3:=k1.trans k2
      exact ih _ _ _ _ _ _ _ h3 hr1 hys1 (fun M3 st a3 w3 g1 g2 g3=>hQ0 M3 st a3 w3 (by rw [e1,e2];exact g1) g2 (k3.trans g3)) fun a3 w3 g1 g2 g3 g4 g5=>hQr a3 w3 g1 (k3.kd g2) g3 g4 g5
    rw [roundsIn_succ,lb113_eq]
    refine wpIn_seq (piece hK h (e113_4 _ _ _ _ _ _ _ _ _ _ _) (get_set_q h.q 27 rfl) fun a1 w1 h1 k1=>?_)
    have s27:=h1.slot 27
    rw [get_set _ _ _ _ (by rw [st113_len];omega),if_pos rfl] at s27
    have t27:a1.eval (.tmp 27) = .bool (decide (i<lenI cands)):=slot_bool s27
    refine wpIn_seq (wpIn_cond t27 ?_)
    unfold loopN at hr
    cases hd:decide (i<lenI cands) with
    | false =>
      rw [hd] at hr
      cases hr
      refine wpIn_exit ?_
      exact hQ0 M1 _ a1 w1 h1 (by rw [List.length_set];rfl) k1
    | true =>
    rw [hd] at hr
    refine wpIn_skip ?_
    have hm:K.Iv cb now i0 M1 (st113 row left K.yv K.v K.lists K.sh K.pf cands (lenI cands) i) a1 w1:=h1.mask (by rw [List.length_set]) (mask_set (fun j=>.inr rfl) rfl)
    refine wpIn_seq (wpIn_block ?_)
    cases hS:S113 fuel row left K.yv K.v K.lists K.sh K.pf cands (lenI cands) i now with
    | fail=>rw [hS] at hr;cases hr
    | pan p=>rw [hS] at hr;cases hr
    | ret o =>
    rw [hS] at hr
    have keepS:∀ {s:NW} {st:St},kpS row left K.yv K.v K.lists K.sh K.pf cands (lenI cands) i s st=true->∀ j,get (st113 row left K.yv K.v K.lists K.sh K.pf cands (lenI cands) i) j = .und\/(get (st113 row left K.yv K.v K.lists K.sh K.pf cands (lenI cands) i) j=get st j/\qs (get (st113 row left K.yv K.v K.lists K.sh K.pf cands (lenI cands) i) j)=true):=fun hk j=>by
      rcases st113_or (row:=row) (left:=left) (yv:=K.yv) (v:=K.v) (lists:=K.lists) (sh:=K.sh) (pf:=K.pf) (cands:=cands) (len:=lenI cands) (i:=i) j with e|⟨e1,e2⟩
      . exact .inl e
      . exact .inr ⟨(kpS_spec hk).2.2 j e1,e2⟩
    refine seg113_wp fuel hS (fun w' _=>trivial) (fun j v hj=>by cases hj) (hm.go hK) (fun s st a' w' xs f e hc h12 hk=>?_) (fun s st a' w' e hc hk=>?_)
    . -- a call of from
      subst e
      have hs1:s.1=K.v:=(kpS_spec hk).1
      obtain ⟨s1,now1⟩:=s
      dsimp only at hs1
      subst hs1
      obtain ⟨g1,g2⟩:=Iv.from hK hm.cle hm.at_ hc (by rw [(kpS_spec hk).2.1];rfl) (keepS hk)
      have g3:=g1.slotAt (d:=12) (s:=.d (.list (.int .i64)) xs) rfl (arr_new hm.at_ rfl hc h12)
      dsimp only at hr
      cases hR:rec (IntKind.i64.wrap (row - 1)) xs now1 with
      | fail=>rw [hR] at hr;cases hr
      | pan p=>rw [hR] at hr;cases hr
      | ret r1 =>
      obtain ⟨ys1,now2⟩:=r1
      rw [hR] at hr
      dsimp only at hr
      cases hL:K.loopN rec row left cands n (IntKind.i64.wrap (i+1)) now2 with
      | fail=>rw [hL] at hr;cases hr
      | pan p=>rw [hL] at hr;cases hr
      | ret r2 =>
      obtain ⟨zs,now3⟩:=r2
      rw [hL] at hr
      cases hr
      have hy1:∀ j y,ys1[j]? = some y->K.ys[i0+j]? = some y:=fun j y hj=>hys j y (by
        have hlt:=(List.getElem?_eq_some_iff.1 hj).1
        show (ys1++zs)[j]? = some y
        rw [List.getElem?_append_left hlt];exact hj)
      rw [tail113_eq]
      have k5:=k1.trans g2
      refine wpIn_seq (r15_wp hK g3 (by rw [List.length_set];rfl) rfl rfl rfl (i2:=i0+ys1.length) (now2:=now2) (fun u hu=>hrec _ _ _ _ _ _ _ _ g3.at_ hu hR hy1) (fun M2 a2 w2 g4 g5=>?_) (fun a2 w2 g4 g5 g6 g7 g8=>?_))
      . have s78:=g4.slot 78
        rw [get_set _ _ _ _ (by simp only [List.length_set,st113_len];omega),if_pos rfl] at s78
        refine wpIn_cond_false (slot_bool s78) (wpIn_skip ?_)
        refine cont now2 (i0+ys1.length) M2 a2 w2 (zs,now3) (g4.mask (by simp only [List.length_set]) (mask_set (mask_set (mask_set (mask_set (mask_set (mask_set (mask_set (fun j=>.inr rfl) rfl) rfl) rfl) rfl) rfl) rfl) rfl)) (k5.trans g5) hL (fun j y hj=>?_) rfl ?_
        . rw [Nat.add_assoc]
          refine hys _ y ?_
          show (ys1++zs)[ys1.length+j]? = some y
          rw [List.getElem?_append_right (by omega),show ys1.length+j - ys1.length=j by omega]
          exact hj
        . show i0+(ys1++zs).length=_
          rw [List.length_append]
          show _=i0+ys1.length+zs.length
          omega
      . refine wpIn_cond_true g8 (r16_wp g7 fun a3 b1 b2 b3=>?_)
        exact hQr a3 w2 g4 (k5.kd g5) (by rw [b2];exact g6) b1 b3
    . subst e
      have hs1:s.1=K.v:=(kpS_spec hk).1
      obtain ⟨s1,now1⟩:=s
      dsimp only at hs1
      subst hs1
      obtain ⟨g1,g2⟩:=Iv.from hK hm.cle hm.at_ hc (by rw [(kpS_spec hk).2.1];rfl) (keepS hk)
      dsimp only at hr
      exact cont now1 i0 M1 a' w' r g1 (k1.trans g2) hr hys rfl rfl
end CK
end Go.V
