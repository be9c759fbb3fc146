/- A part of the proof of a law of the copies. -/
import Derived.Test.YtmkbnifehdhbbabGreatDoorCX
set_option linter.all false
noncomputable section
namespace Go.V
open Go.Proofs
open Go.RowKit (Below)
abbrev LLT:Ty:=.list (.list (.int .i64))
abbrev LL:Type:=List (List Int)
abbrev TOLT:Ty:=.prod TRT (.prod (.list LLT) .unit)
abbrev TOL:Type:=TR×List LL×Unit
abbrev SL:Type:=Option (Nat×TR×List LL)
def TolAt (M:Mut) (w:World) (X:Nat) (r:TR) (xs:List LL) (x0 x1 x2 v:Value) (us:List Value):Prop :=
 w.heap[X]? = some (.cells #[x0,x1,x2,v] 118 (0,0))/\RepC M w TRT [x0,x1,x2] r/\us.length=xs.length/\w.ownsRow 0 37 1 v us.length us/\(∀ (i:Nat) u x,us[i]? = some u->xs[i]? = some x->RepC M w LLT [u] x)/\∀ g,ownB v=some g->g≠X
def HL:Hole where
 σ:=SL
 hb s w b:=∃ X r xs,s=some (X,r,xs)/\(b=X\/∃ v,w.cell? ⟨X,3,none⟩=some v/\ownB v=some b)
 I s M w:=∀ X r xs,s=some (X,r,xs)->∃ x0 x1 x2 v us,TolAt M w X r xs x0 x1 x2 v us
 keep s M w M' w' h hst hk:=by
  intro X r xs e;obtain ⟨x0,x1,x2,v,us,h3,h4,h5,h6,h7,h8⟩:=h X r xs e;have hc:w.cell? ⟨X,3,none⟩=some v:=cell_at h3 rfl;exact ⟨x0,x1,x2,v,us,(hk X ⟨X,r,xs,e,.inl rfl⟩).trans h3,RepC.mono hst _ _ _ h4,h5,owns_keep h6 fun g hg=>hk g ⟨X,r,xs,e,.inr ⟨v,hc,hg⟩⟩,fun i u x e1 e2=>RepC.mono hst _ _ _ (h7 i u x e1 e2),h8⟩
 same s M w w' h hk b hb:=by
  obtain ⟨X,r,xs,e,hb|⟨v,hv,hvb⟩⟩:=hb
  . exact ⟨X,r,xs,e,.inl hb⟩
  . refine ⟨X,r,xs,e,.inr ⟨v,?_,hvb⟩⟩;rw [<- hv];exact (World.cell?_of_block (a:=⟨X,3,none⟩) (hk X ⟨X,r,xs,e,.inl rfl⟩)).symm
 lt s M w b h hb:=by
  obtain ⟨X,r,xs,e,hb⟩:=hb;obtain ⟨x0,x1,x2,v,us,h3,h4,h5,h6,h7,h8⟩:=h X r xs e;rcases hb with rfl|⟨v',hv,hvb⟩
  . exact (Array.getElem?_eq_some_iff.1 h3).1
  . have hc:w.cell? ⟨X,3,none⟩=some v:=cell_at h3 rfl;rw [hc] at hv;cases hv;obtain ⟨cur,e⟩:=owns_block h6 hvb;exact (Array.getElem?_eq_some_iff.1 e).1
 nd s M w b c h hb e2:=by
  obtain ⟨X,r,xs,e,hb⟩:=hb;obtain ⟨x0,x1,x2,v,us,h3,h4,h5,h6,h7,h8⟩:=h X r xs e;rcases hb with rfl|⟨v',hv,hvb⟩
  . rw [h3] at e2;cases e2
  . have hc:w.cell? ⟨X,3,none⟩=some v:=cell_at h3 rfl;rw [hc] at hv;cases hv;obtain ⟨cur,e⟩:=owns_block h6 hvb;rw [e] at e2;cases e2
theorem HL_none (w:World) (b:Nat):¬ HL.hb (none:SL) w b:=by
 rintro ⟨X,r,xs,e,_⟩;cases e
theorem HL_I_none (M:Mut) (w:World):HL.I (none:SL) M w:=fun X r xs e=>by cases e
def ptrB (v:Value):Nat:=match v with | .pointer (some a)=>a.block|_=>0
def ptrV (X:Nat):Value:=.pointer (some ⟨X,0,none⟩)
theorem own_one {w:World} {E n:Nat} {v:Value} {us:List Value} (h:w.ownsRow 0 E 1 v n us):v.oneCell'=true/\v.cells = #[v]:=by
 rcases h.2 with ⟨rfl,_⟩|⟨g,cap,cur,rfl,_⟩<;>exact ⟨rfl,rfl⟩
def tolG (nt p d t:Nat) (s:HL.σ) (st:St):Bool×Outs HL :=
 match get st p with
 | .d (.prod (.prod (.int .i64) (.prod (.list (.prod (.int .i64) (.prod (.list (.int .i64)) .unit))) .unit)) (.prod (.list (.list (.int .i64))) .unit)) r=>((st.length==nt && noBoxes [t,d] st) && Option.isNone (show SL from s),.each fun v=>((some (ptrB v,(show TR from r),[]):SL),(undAll [t] st).set d (.d .raw (ptrV (ptrB v)))))
 | _=>(false,.some [])
theorem ex_build99 {act:Act} {w:World} {o:Oper} {a:Nat} (ho:o.op = .build 118 #[(0,.tmp a),(1,.const (.slice none 0 0))]) {x0 x1 x2:Value} (ha:tm act a = .agg #[x0,x1,x2])
 (c0:x0.cells = #[x0]) (c1:x1.cells = #[x1]) (c2:x2.cells = #[x2]):(execOp act.eval o).run Tryz.prog w = .ok (.value (.agg #[x0,x1,x2,.slice none 0 0])) w:=by
 have e0:act.eval (.tmp a) = .agg #[x0,x1,x2]:=ha;have e1:act.eval (.const (.slice none 0 0)) = .slice none 0 0:=rfl;simp only [execOp,ho,List.map_toArray,List.map_cons,List.map_nil,e0,e1];simp [go_sem]
theorem ex_zero99 {a:Act} {w:World} {o:Oper} (ho:o.op = .alloc 118):(execOp a.eval o).run Tryz.prog w = .ok (.value (.pointer (some ⟨w.heap.size,0,none⟩))) (w.alloc (.cells #[.int .i64 0,.slice none 0 0,.slice none 0 0,.slice none 0 0] 118)):=by
 simp only [execOp,ho];simp [go_sem]
theorem ex_store99 {a:Act} {w:World} {o:Oper} {p q:Nat} (ho:o.op = .store 118 (.tmp p) (.tmp q)) {X:Nat} {y0 y1 y2 y3 x0 x1 x2 x3:Value} (hp:tm a p=ptrV X) (hq:tm a q = .agg #[x0,x1,x2,x3]) (hX:w.heap[X]? = some (.cells #[y0,y1,y2,y3] 118 (0,0)))
 (c0:x0.oneCell'=true) (c1:x1.oneCell'=true) (c2:x2.oneCell'=true) (c3:x3.oneCell'=true):(execOp a.eval o).run Tryz.prog w = .ok .skip (w.setRow X #[x0,x1,x2,x3]):=by
 have e3:a.eval (.tmp p) = .pointer (some ⟨X,0,none⟩):=hp;have e11:a.eval (.tmp q) = .agg #[x0,x1,x2,x3]:=hq;have hrun:=run_storeVar (P:=Tryz.prog) (n:=9) (T:=118) (t:=TOLT) (by kernel_rfl) (o:=0) (v:=.agg #[x0,x1,x2,x3]) rfl hX (by show 0+4<=4;omega) (by
  intro u hu;have hu':u=x0\/u=x1\/u=x2\/u=x3:=by simpa [Value.cells] using hu
  rcases hu' with rfl|rfl|rfl|rfl<;>assumption)
 simp only [execOp,ho,e3,e11,Instr.storeAt,Instr.sureAddr,Sem.run_bind,Sem.run_pure,Result.andThen_ok];rw [hrun];rfl
theorem tol_ok {ops:Array Oper} {i p d t nt:Nat} (ht:t<nt) (hd:d<nt) (htd:t≠d) (hpt:p≠t) (x0:(ops.toList.map opInfo)[i]? = some (some t,.build 118 #[(0,.tmp p),(1,.const (.slice none 0 0))],none)) (x1:(ops.toList.map opInfo)[i+1]? = some (some d,.alloc 118,none))
 (x2:(ops.toList.map opInfo)[i+2]? = some (none,.store 118 (.tmp d) (.tmp t),none)):HandQ Tryz.prog HL ops i 2 (tolG nt p d t):=by
 intro F M0 w0 n hI hpl Q rest s st act w hc h1 hK;obtain ⟨o0,i0,d0,p0,q0⟩:=infoAt rfl x0;obtain ⟨o1,i1,d1,p1,q1⟩:=infoAt rfl x1;obtain ⟨o2,i2,d2,p2,q2⟩:=infoAt rfl x2;simp only at d0 p0 q0 d1 p1 q1 d2 p2 q2;unfold tolG at h1
 split at h1;rotate_left
 . cases h1
 rename_i r ea;simp only [Bool.and_eq_true,beq_iff_eq] at h1;obtain ⟨⟨hlen,hnb⟩,hs⟩:=h1;have hs:s=(none:SL):=Option.isNone_iff_eq_none.1 hs;subst hs;obtain ⟨hfr,M,hG⟩:=id hc;have hg:=hG.2.1;have hsz:act.tmps.size=nt:=hg.size.trans hlen
 have sa:=hg.slot p;rw [ea] at sa;obtain ⟨y0,y1,y2,ta,c0,c1,c2,hrc⟩:=trT_cells (show RepV M w TRT (tm act p) r from sa);show wpOpsIn (fen none) n Tryz.prog ops Q (i :: (i+1) :: (i+2) :: rest) act w;rw [wpOpsIn_cons];refine opn_value i0 (wanted_none q0) (fun c h=>by rw [p0] at h;cases h) (ex_build99 p0 ta c0.1 c1.1 c2.1) ?_
 rw [d0,wpOpsIn_cons];refine opn_value i1 (wanted_none q1) (fun c h=>by rw [p1] at h;cases h) (ex_zero99 p1) ?_;rw [d1,wpOpsIn_cons];refine opn_skipped i2 (wanted_none q2) (fun c h=>by rw [p2] at h;cases h) (ex_store99 p2 (X:=w.heap.size) (tm_put_same (by simp only [size_put];omega)) (by rw [tm_put_other (by omega),tm_put_same (by omega)]) (heap_alloc_new w _) c0.2 c1.2 c2.2 rfl) ?_
 rw [d2,put_none,alloc_setRow];obtain ⟨w1,hw1⟩:∃ w1,w1=w.alloc (.cells #[y0,y1,y2,.slice none 0 0] 118):=⟨_,rfl⟩
 rw [<- hw1];have hX:w1.heap[w.heap.size]? = some (.cells #[y0,y1,y2,.slice none 0 0] 118 (0,0)):=by rw [hw1];exact heap_alloc_new w _
 have hs1:w1.heap.size=w.heap.size+1:=by rw [hw1];simp
 have hbel:Below w.heap.size w w1:=by rw [hw1];exact (Below.refl _ w).alloc (Nat.le_refl _) _
 obtain ⟨M',hM'⟩:∃ M':Mut,M'=fun b o=>M b o\/b=w.heap.size:=⟨_,rfl⟩
 have hst:Stable M w M' w1:=fun b o u hcb hm=>by
  have hlt:=cell_lt hcb;refine ⟨(World.cell?_of_block (a:=⟨b,o,none⟩) (hbel.block b hlt)).trans hcb,fun h=>?_⟩;rw [hM'] at h;rcases h with h|h
  . exact hm h
  . omega
 have hI':HL.I (some (w.heap.size,(show TR from r),[]):SL) M' w1:=fun X r' xs e=>by
  cases e;exact ⟨y0,y1,y2,.slice none 0 0,[],hX,RepC.mono hst _ _ _ hrc,rfl,⟨rfl,.inl ⟨rfl,rfl⟩⟩,fun i u x h=>by simp at h,fun g hg=>by cases hg⟩
 have hb':∀ b,HL.hb (some (w.heap.size,(show TR from r),[]):SL) w1 b->b=w.heap.size:=by
  rintro b ⟨X,r',xs,e,hb|⟨v,hv,hvb⟩⟩
  . cases e;exact hb
  . cases e;rw [cell_at hX rfl] at hv;cases hv;cases hvb
 obtain ⟨f1,f2⟩:=hG.grow (s':=(some (w.heap.size,(show TR from r),[]):SL)) (M':=M') (w':=w1) ⟨hbel.os,hbel.tape,hbel.output,hbel.size,fun k hk=>hbel.block k hk.1⟩ hI' (fun b o h=>by rw [hM'];exact .inr (.inl h)) (fun b o h=>by
  rw [hM'] at h;rcases h with h|h
  . exact .inl h
  . subst h;exact .inr ⟨Nat.le_refl _,by omega⟩) (fun b hb=>.inr (Nat.le_of_eq (hb' b hb).symm)) fun b hb o=>by
  rw [hM'];exact .inr (hb' b hb)
 have nb:∀ j∈[t,d],isBox (get st j)=false:=fun j hj=>by
  have:=List.all_eq_true.1 hnb j hj
  simpa using this
 have g1:=undAll_ok f2 [(t,.agg #[y0,y1,y2,.slice none 0 0])] st act f2 (List.all_eq_true.2 fun j hj=>List.all_eq_true.1 hnb j (by simp at hj ⊢;exact .inl hj));have hf:=g1.focus.fin (dst:=some d) (s:=.d .raw (ptrV w.heap.size)) (v:=ptrV w.heap.size) (fun d' hd'=>by
  cases hd';show isBox (get (st.set t .und) d)=false;rw [get_set st _ _ _ (by omega),if_neg (by omega)];exact nb d (by simp)) rfl ⟨_,rfl,rfl,rfl,rfl⟩
 have hmem:(tolG nt p d t (none:SL) st).2.mem ((some (w.heap.size,(show TR from r),[]):SL),(undAll [t] st).set d (.d .raw (ptrV w.heap.size))):=by
  unfold tolG;rw [ea];exact ⟨ptrV w.heap.size,rfl⟩
 exact hK _ hmem _ _ ⟨hfr.trans f1,M',g1.unfocus (Fr.refl _ _) hf⟩
def tolL (nt p d:Nat) (s:HL.σ) (st:St):Bool×Outs HL :=
 match (show SL from s) with
 | some (X,r,xs)=>(match get st p with
  | .d .raw v'=>((st.length==nt && noBoxes [d] st) && isV v' (ptrV X),.some [((none:SL),st.set d (.d TOLT (r,(xs,()))))])
  | _=>(false,.some []))
 | none=>(false,.some [])
theorem tolL_ok {ops:Array Oper} {i p d nt:Nat} (x0:(ops.toList.map opInfo)[i]? = some (some d,.load 118 (.tmp p),none)):HandOp Tryz.prog HL ops i (tolL nt p d):=by
 intro F M0 w0 n hI hpl Q K s st act w hc h1 hK;obtain ⟨o0,i0,d0,p0,q0⟩:=infoAt rfl x0;simp only at d0 p0 q0;unfold tolL at h1;split at h1;rotate_left
 . cases h1
 rename_i X r xs es;have es:s=(some (X,r,xs):SL):=es;subst es;split at h1;rotate_left
 . cases h1
 rename_i vD ea;obtain ⟨v',hvD⟩:∃ z:Value,z=vD:=⟨_,rfl⟩
 subst hvD;simp only [Bool.and_eq_true,beq_iff_eq] at h1;obtain ⟨⟨hlen,hnb⟩,hv⟩:=h1;have hv:=isV_eq hv;subst hv;obtain ⟨hfr,M,hG⟩:=hc;have hg:=hG.2.1;have sp:=hg.slot p;rw [ea] at sp;have tp:tm act p=ptrV X:=repV_raw (show RepV M w .raw (tm act p) (ptrV X) from sp)
 obtain ⟨x0',x1,x2,v,us,hX,hrc,hul,hown,hreps,hdis⟩:=hG.1 X r xs rfl;have hrun:(execOp act.eval o0).run Tryz.prog w = .ok (.value (.agg #[x0',x1,x2,v])) w:=by
  have:=load_cells (P:=Tryz.prog) (n:=9) (T:=118) (t:=TOLT) (w:=w) (b:=X) (off:=0) (us':=[]) (c1:=[x0',x1,x2,v]) (by kernel_rfl) hX rfl rfl;have e:act.eval (.tmp p) = .pointer (some ⟨X,0,none⟩):=tp;simp [execOp,p0,e,Instr.loadAt,Instr.sureAddr,this,toVal,Ty.agg]
 refine opn_value i0 (wanted_none q0) (fun c h=>by rw [p0] at h;cases h) hrun ?_;rw [d0];obtain ⟨M',hM'⟩:∃ M':Mut,M'=fun b o=>M b o/\ownB v≠some b:=⟨_,rfl⟩
 have hst:Stable M w M' w:=fun b o u hc hm=>⟨hc,fun h=>by rw [hM'] at h;exact hm h.1⟩
 have hhb:∀ b,ownB v=some b->HL.hb (some (X,r,xs):SL) w b:=fun b hb=>⟨X,r,xs,rfl,.inr ⟨v,cell_at hX rfl,hb⟩⟩
 have hG':GoodH HL F M0 (none:SL) M' st act w:=by
  refine ⟨HL_I_none _ _,?_,fun b hb=>absurd hb (HL_none w b)⟩;refine hg.world hst (Nat.le_refl _) (fun b o hm=>?_) (fun b o hm=>?_) (fun b o hF hm=>?_) (KeepsD.refl _) fun i k b ho=>⟨rfl,fun o hm=>?_⟩
  . rw [hM'];exact ⟨hg.up b o hm,fun hb=>(hG.2.2 b (hhb b hb)).1 (hg.base b o hm)⟩
  . rw [hM'] at hm;exact hg.lt b o hm.1
  . rw [hM'] at hm;exact hg.down b o hF hm.1
  . rw [hM'];exact ⟨hm,fun hb=>(hG.2.2 b (hhb b hb)).2.2 i k ho⟩
 have hl:RepC M' w (.list LLT) [v] xs:=by
  rcases hown.2 with ⟨rfl,h0⟩|⟨g,cap,cur,rfl,_,hgg,hle',_,hcs',htk⟩
  . have:xs=[]:=List.eq_nil_of_length_eq_zero (by omega);subst this;exact RepC.list_nil _
  . refine ⟨some ⟨g,0,none⟩,cap,by rw [hul];rfl,by rw [hul] at hle';exact hle',fun j hj=>?_⟩;have hj':j<xs.length:=hj;have hju:j<us.length:=by omega
    refine ⟨g,0,[us[j]],rfl,rfl,fun k hk=>?_,RepC.mono hst _ _ _ (hreps j us[j] xs[j] (List.getElem?_eq_getElem hju) (List.getElem?_eq_getElem hj'))⟩;have:k=0:=by simpa using hk
    subst this;simp only [Ty.size,Nat.mul_one,Nat.zero_add,Nat.add_zero];refine ⟨?_,fun h=>by rw [hM'] at h;exact h.2 rfl⟩;rw [cell_of_row w g j cur 37 (0,0) hgg];have h2:(cur.toList.take (us.length * 1))[j]? = some us[j]:=by rw [htk];exact List.getElem?_eq_getElem hju
    rw [List.getElem?_take,if_pos (by omega),Array.getElem?_toList] at h2;exact h2
 have hnb':isBox (get st d)=false:=by
  have:=List.all_eq_true.1 hnb d (by simp)
  simpa using this
 have hrepT:RepV M' w TOLT (.agg #[x0',x1,x2,v]) (r,(xs,())):=⟨[x0',x1,x2,v],rfl,[x0',x1,x2],[v],rfl,RepC.mono hst _ _ _ hrc,[v],[],rfl,hl,rfl⟩
 have hf:=hG'.focus.fin (dst:=some d) (s:=.d TOLT (r,(xs,()))) (v:=.agg #[x0',x1,x2,v]) (fun d' hd=>by cases hd;exact hnb') rfl hrepT;have hmem:(tolL nt p d (some (X,r,xs):SL) st).2.mem ((none:SL),st.set d (.d TOLT (r,(xs,())))):=by
  unfold tolL;dsimp only;rw [ea];exact .head _
 exact hK _ hmem _ _ ⟨hfr,M',hG'.unfocus (Fr.refl _ _) hf⟩
end Go.V
namespace Go.V
open Go.Proofs
open Go.RowKit (Below)
section
variable {P : Program} {ops : Array Oper} {Q : Exit → Act → World → Prop} {S : World → Prop} {t : Nat}
theorem held_call {i:Nat} {dst:Option Nat} {op:Op} {fuel:Nat} {L:Array Bool} {a:Act} {w:World} (hx:(ops.toList.map opInfo)[i]? = some (dst,op,none)) (hr:Region.ready .any ops L=[i]) {f:FuncId} {args:Array Value}
 (hrun:∀ o:Oper,o.op=op->(execOp a.eval o).run P w = .ok (.enter f args) w) (hc:Calls P f args w fun e w2=>∃ v,e = .returned v/\(i≠t->S w2)/\wpAnyT P ops Q S t fuel (L.setIfInBounds i true) (a.put dst v) w2):wpAnyT P ops Q S t (fuel+1) L a w:=by
 obtain ⟨o,hi,hd,ho,hg⟩:=infoAt rfl hx;simp only at hd ho hg;refine ⟨fun h0=>(by rw [h0] at hr;cases hr),fun j hj=>?_⟩;rw [hr,List.mem_singleton] at hj;subst hj;unfold wpOp;simp only [hi,wanted_none hg,if_true];left;have:=hrun o ho
 unfold Oper.wp;rw [this];simp only [Oper.upon];refine hc.mono ?_;rintro e w2 ⟨v,rfl,h1,h2⟩;rw [hd];exact ⟨h1,h2⟩
end
def r70_5:Array Oper:=regAt 5 (bodyOf Tryz.f85)
theorem info70_5:r70_5.toList.map opInfo=[(some 13,.fieldAddr 118 (.tmp 3) 1,none),(some 14,.load 116 (.tmp 13),none),(some 15,.load 24 (.tmp 1),none),(some 16,.move (.tmp 4),none),
 (some 17,.call { callee:=.value (.func 71),args := #[.tmp 15,.tmp 16],argTypes := #[24,3] },none),(some 18,.call { callee:=.value (.func 83),args := #[.tmp 17],argTypes := #[102] },none),(some 19,.buildSlice 116 1 #[(0,.tmp 18)],none),
 (some 20,.call { callee:=.builtin .append,args := #[.tmp 14,.tmp 19],argTypes := #[116,116] },none),(some 21,.fieldAddr 118 (.tmp 3) 1,none),(none,.store 116 (.tmp 21) (.tmp 20),none)]:=by kernel_rfl
def tolB (n:Nat) (t:TREE) (place:Int) (v X:Value):Bool:=isV v X && (decide (n<999999999) && preS t place)
def E70_5 {ρ:Type} (k:X->HL.σ->St->Out ρ) (s:HL.σ) (st:St):Out ρ :=
 match (show SL from s) with
 | some (X,r,xs)=>(match get st 3 with
  | .d .raw v'=>(match get st 1 with
   | .box [.d (.int .i64) p,.d (.list (.prod (.int .i64) (.prod (.list (.int .i64)) .unit))) cs]=>(match get st 4 with
    | .d (.int .i64) place=>bif (st.length==24 && noBoxes [13,14,15,16,17,18,19,20,21] st) && tolB xs.length (p,(cs,())) place v' (ptrV X) then k .normal (some (X,r,xs++[storT (p,(cs,())) place])) (undAll [13,14,15,16,17,18,19,20,21] (st.map dropS)) else .fail
    | _=>.fail)
   | _=>.fail)
  | _=>.fail)
 | none=>.fail
theorem ex_build97 {a:Act} {w:World} {o:Oper} {q:Nat} (ho:o.op = .buildSlice 116 1 #[(0,.tmp q)]) {u:Value} (h1:tm a q=u) (hu:u.cells = #[u]) (hz:∃ ad n c,u = .slice ad n c):(execOp a.eval o).run Tryz.prog w = .ok (.value (.slice (some ⟨w.heap.size,0,none⟩) 1 1)) (w.alloc (.cells #[u] 37)):=by
 obtain ⟨ad,n,c,rfl⟩:=hz;have e1:a.eval (.tmp q) = .slice ad n c:=h1;simp only [execOp,ho,List.map_toArray,List.map_cons,List.map_nil,e1];simp [go_sem]
theorem ex_app97 {a:Act} {w:World} {o:Oper} {p q:Nat} {v:Value} {us:List Value} {x:Value} {b:Nat} (ho:o.op = .call { callee:=.builtin .append,args := #[.tmp p,.tmp q],argTypes := #[116,116] }) (h0:tm a p=v) (h1:tm a q = .slice (some ⟨b,0,none⟩) 1 1)
 (hown:w.ownsRow 0 37 1 v us.length us) (hc:w.cell? ⟨b,0,none⟩=some x) (hx:x.oneCell'=true) (hlen:us.length<1000000000) :
 ∃ v' w',(execOp a.eval o).run Tryz.prog w = .ok (.value v') w'/\w'.ownsRow 0 37 1 v' (us++[x]).length (us++[x])/\w.grownBy w' (ownB v)/\(ownB v'=ownB v\/ownB v'=some w.heap.size):=by
 have e0:a.eval (.tmp p)=v:=h0;have e1:a.eval (.tmp q) = .slice (some ⟨b,0,none⟩) 1 1:=h1;obtain ⟨v',w',g1,g2⟩:=append_one (P:=Tryz.prog) (w:=w) (t:=116) (ty:=o.type) (e:=37) (i:=(Tryz.prog.info? 37).getD default) (z:=.slice none 0 0) (by kernel_rfl) (by kernel_rfl) (by kernel_rfl) (by kernel_rfl) (of_decide_eq_true (by kernel_rfl)) (by kernel_rfl) hown hc hx hlen
 refine ⟨v',w',?_,g2⟩;simp [execOp,ho,resolve,e0,e1,invoke,builtin,g1]
theorem repV_slice {M:Mut} {w:World} {e:Ty} {v:Value} {x:List e.den} (h:RepV M w (.list e) v x):(∃ ad n c,v = .slice ad n c)/\RepC M w (.list e) [v] x:=by
 obtain ⟨cs,rfl,hc⟩:=h;obtain ⟨ad,cap,e1,_⟩:=id hc;subst e1;exact ⟨⟨_,_,_,rfl⟩,hc⟩
set_option maxRecDepth 8000 in
theorem E70_5_ok:EOKH Tryz.prog HL (.region 5 r70_5 true) (fun {ρ} k s st=>E70_5 k s st):=by
 intro ρ fin hf hr F M0 w0 n hI hpl k Q hQ s st act w hc h;have h':E70_5 k s st=fin:=h;clear h;unfold E70_5 at h';split at h';rotate_left
 . exact absurd h'.symm hf
 rename_i X r xs es;have es:s=(some (X,r,xs):SL):=es;subst es;split at h';rotate_left
 . exact absurd h'.symm hf
 rename_i vD e3;obtain ⟨v',hvD⟩:∃ z:Value,z=vD:=⟨_,rfl⟩
 subst hvD;split at h';rotate_left
 . exact absurd h'.symm hf
 rename_i p cs e1;split at h';rotate_left
 . exact absurd h'.symm hf
 rename_i placeD e4;obtain ⟨place,hplD⟩:∃ z:Int,z=placeD:=⟨_,rfl⟩
 subst hplD;cases hcd:((st.length==24 && noBoxes [13,14,15,16,17,18,19,20,21] st) && tolB xs.length (p,(cs,())) place v' (ptrV X)) with
 | false=>rw [hcd] at h';exact absurd h'.symm hf
 | true =>
 rw [hcd] at h';unfold tolB at hcd;simp only [Bool.and_eq_true,beq_iff_eq,decide_eq_true_eq] at hcd;obtain ⟨⟨hlen,hnb⟩,hv,hxl,hpre⟩:=hcd;have hv:=isV_eq hv;subst hv;have h':k .normal (some (X,r,xs++[storT (p,(cs,())) place])) (undAll [13,14,15,16,17,18,19,20,21] (st.map dropS))=fin:=h'
 obtain ⟨tr,htr⟩:∃ tr:TREE,tr=(p,(cs,())):=⟨_,rfl⟩
 have h':k .normal (some (X,r,xs++[storT tr place])) (undAll [13,14,15,16,17,18,19,20,21] (st.map dropS))=fin:=by rw [htr];exact h'
 have hpre:preS tr place=true:=by rw [htr];exact hpre
 obtain ⟨N0,hpn,hcl,hback⟩:=hc.lift;obtain ⟨hfr,M,hG⟩:=hback _ _ _ hcl.drop;have hg:=hG.2.1;have hsz:act.tmps.size=24:=hg.size.trans (by simp;exact hlen);have s3:=hg.slot 3;rw [get_map,e3] at s3;have t3:tm act 3=ptrV X:=repV_raw (show RepV M w .raw (tm act 3) (ptrV X) from s3)
 have s1:=hg.slot 1;rw [get_map,e1] at s1;obtain ⟨b1,T1,c1,t1,hb1,hc1,hok1⟩:=box_cells s1;obtain ⟨y0,y1,rfl⟩:=two_cells (hc1.trans rfl);have hy0:y0 = .int .i64 p:=cell_int (hok1 0 _ y0 rfl rfl);subst hy0;have hy1:RepC M w ty0 [y1] cs:=hok1 1 _ y1 rfl rfl
 have htree:RepV M w TREET (.agg #[.int .i64 p,y1]) tr:=by rw [htr];exact ⟨[.int .i64 p,y1],rfl,[.int .i64 p],[y1],rfl,rfl,[y1],[],rfl,hy1,rfl⟩
 have s4:=hg.slot 4;rw [get_map,e4] at s4;have t4:tm act 4 = .int .i64 place:=slot_int s4;obtain ⟨x0,x1,x2,v,us,hX,hrc,hul,hown,hreps,hdis⟩:=hG.1 X r xs rfl;have h1o:owns (st.map dropS) act w 1 none b1:=⟨by rw [get_map,e1];rfl,by rw [t1];rfl⟩
 have h1h:¬ HL.hb (some (X,r,xs):SL) w b1:=fun hB=>(hG.2.2 b1 hB).2.2 1 none h1o
 have hXh:HL.hb (some (X,r,xs):SL) w X:=⟨X,r,xs,rfl,.inl rfl⟩
 have hRh:∀ g,ownB v=some g->HL.hb (some (X,r,xs):SL) w g:=fun g hg'=>⟨X,r,xs,rfl,.inr ⟨v,cell_at hX rfl,hg'⟩⟩
 have lX:X<w.heap.size:=(Array.getElem?_eq_some_iff.1 hX).1;have l1:b1<w.heap.size:=(Array.getElem?_eq_some_iff.1 hb1).1;obtain ⟨S,hS⟩:∃ S:World->Prop,S=fun w'=>w'.heap[X]? = some (.cells #[x0,x1,x2,v] 118 (0,0))/\w'.heap[b1]? = some (.cells #[.int .i64 p,y1] T1 (0,0)):=⟨_,rfl⟩
 have Sb:∀ w',Below w.heap.size w w'->S w':=fun w' hb=>by rw [hS];exact ⟨(hb.block X lX).trans hX,(hb.block b1 l1).trans hb1⟩
 have bd:Below w.heap.size w w.drew:=(Below.refl _ _).drew;have S0:S w.drew:=Sb _ bd;have nQ:∀ c a w,¬ calmQ Q (.panic c) a w:=fun c a w h=>h
 have ns:Region.noSelect r70_5=true:=by kernel_rfl
 refine held_begin mixed S 9 ?_;rw [show r70_5.size=10 by kernel_rfl];show wpAnyT Tryz.prog r70_5 (calmQ Q) S 9 10 ((Array.replicate 10 false)) act w.drew;refine held_read (i:=0) (d:=13) (v:=.pointer (some ⟨X,3,none⟩)) (by rw [info70_5];rfl) ns (by kernel_rfl) (by kernel_rfl) (by kernel_rfl) nQ (fun o ho w' hw'=>?_) S0 ?_
 . have e:act.eval (.tmp 3) = .pointer (some ⟨X,0,none⟩):=t3;simp only [execOp,ho,e];simp [go_sem]
 refine held_read (i:=1) (d:=14) (v:=v) (by rw [info70_5];rfl) ns (by kernel_rfl) (by kernel_rfl) (by kernel_rfl) nQ (fun o ho w' hw'=>?_) S0 ?_
 . rw [hS] at hw';exact ex_loadAt (T:=116) (t:=.list LLT) (by kernel_rfl) rfl rfl ho (b:=X) (j:=3) (by rw [tm_put_same (by omega)]) hw'.1 rfl
 refine held_read (i:=2) (d:=15) (v:=.agg #[.int .i64 p,y1]) (by rw [info70_5];rfl) ns (by kernel_rfl) (by kernel_rfl) (by kernel_rfl) nQ (fun o ho w' hw'=>?_) S0 ?_
 . rw [hS] at hw';have:=load_cells (P:=Tryz.prog) (n:=9) (T:=24) (t:=TREET) (w:=w') (b:=b1) (off:=0) (us':=[]) (c1:=[.int .i64 p,y1]) (by kernel_rfl) hw'.2 rfl rfl;have e:((act.put (some 13) (.pointer (some ⟨X,3,none⟩))).put (some 14) v).eval (.tmp 1) = .pointer (some ⟨b1,0,none⟩):=by show tm _ 1=_;rw [tm_put_other (by omega),tm_put_other (by omega)];exact t1
   simp [execOp,ho,e,Instr.loadAt,Instr.sureAddr,this,toVal,Ty.agg]
 refine held_read (i:=3) (d:=16) (v:=.int .i64 place) (by rw [info70_5];rfl) ns (by kernel_rfl) (by kernel_rfl) (by kernel_rfl) nQ (fun o ho w' hw'=>?_) S0 ?_
 . rw [ex_move ho,tm_put_other (by omega),tm_put_other (by omega),tm_put_other (by omega),t4]
 obtain ⟨a4,ha4⟩:∃ a4,a4=(((act.put (some 13) (.pointer (some ⟨X,3,none⟩))).put (some 14) v).put (some 15) (.agg #[.int .i64 p,y1])).put (some 16) (.int .i64 place):=⟨_,rfl⟩
 rw [<- ha4];have z4:a4.tmps.size=24:=by rw [ha4];simp only [size_put];exact hsz
 have hIw:Inv.I Tryz.prog w.drew:=hI w.drew (hfr.trans (Fr.below bd hg.room));have hstd:Stable M w M w.drew:=fun b o u hcb hm=>⟨hcb,hm⟩
 have hvs:RepT M w.drew ARG62 #[.agg #[.int .i64 p,y1],.int .i64 place].toList (tr,(place,())):=⟨_,_,rfl,htree.mono hstd,_,_,rfl,⟨_,rfl,rfl⟩,rfl⟩
 have hpS:=preS_iff.1 hpre;have hpair:=pair_calls c64 (x:=(tr,(place,()))) (f58_made hpS.tree) (r:=storT tr place) (fun b=>by
  unfold f64;rw [if_pos ⟨rfl,⟨hpS.st.rd,hpS.st.par,hpS.st.pos,hpS.st.few⟩⟩];show Out.ret (putAll (b,madeT tr,place) []) = .ret (storT tr place);unfold storT putAll smT;rw [putV_block]) hIw hvs hg.lt
 have hr4:∀ o:Oper,o.op = .call { callee:=.value (.func 71),args := #[.tmp 15,.tmp 16],argTypes := #[24,3] }->(execOp a4.eval o).run Tryz.prog w.drew = .ok (.enter 71 #[.agg #[.int .i64 p,y1],.int .i64 place]) w.drew:=fun o ho=>by
  have e0:a4.eval (.tmp 15) = .agg #[.int .i64 p,y1]:=by show tm a4 15=_;rw [ha4,tm_put_other (by omega),tm_put_same (by simp only [size_put];omega)]
  have e1:a4.eval (.tmp 16) = .int .i64 place:=by show tm a4 16=_;rw [ha4,tm_put_same (by simp only [size_put];omega)]
  have e3:=fun args=>enters_run (P:=Tryz.prog) (g:=71) (by kernel_rfl) args w.drew
  have e4:a4.eval (.func 71) = .func (.func 71) #[] #[]:=rfl;simp [execOp,ho,resolve,e0,e1,e4,Deferred.ofValue,invoke,e3]
 refine held_call (i:=4) (dst:=some 17) (by rw [info70_5];rfl) (by kernel_rfl) hr4 (hpair.mono ?_);rintro e wa ⟨v17,rfl,hba,hc64⟩;refine ⟨v17,rfl,fun _=>Sb wa (bd.trans hba),?_⟩;obtain ⟨a5,ha5⟩:∃ a5,a5=a4.put (some 17) v17:=⟨_,rfl⟩
 rw [<- ha5];have z5:a5.tmps.size=24:=by rw [ha5];simp only [size_put];exact z4
 have hr5:∀ o:Oper,o.op = .call { callee:=.value (.func 83),args := #[.tmp 17],argTypes := #[102] }->(execOp a5.eval o).run Tryz.prog wa = .ok (.enter 83 #[v17]) wa:=fun o ho=>by
  have e0:a5.eval (.tmp 17)=v17:=by show tm a5 17=_;rw [ha5,tm_put_same (by first|omega|(simp only [size_put];omega))]
  have e3:=fun args=>enters_run (P:=Tryz.prog) (g:=83) (by kernel_rfl) args wa
  have e4:a5.eval (.func 83) = .func (.func 83) #[] #[]:=rfl;simp [execOp,ho,resolve,e0,e4,Deferred.ofValue,invoke,e3]
 refine held_call (i:=5) (dst:=some 18) (by rw [info70_5];rfl) (by kernel_rfl) hr5 (hc64.mono ?_);rintro e wb ⟨v18,rfl,hbb,M2,hM2,hM2',hs18,_⟩;have hbb:Below w.heap.size w wb:=bd.trans hbb;refine ⟨v18,rfl,fun _=>Sb wb hbb,?_⟩
 obtain ⟨⟨ad,ln,cp,hv18⟩,hrep18⟩:=repV_slice (e:=.list (.int .i64)) (show RepV M2 wb LLT v18 (storT tr place) from hs18);have hc18:v18.cells = #[v18]:=by rw [hv18];rfl
 refine held_step (i:=6) (dst:=some 19) (v:=.slice (some ⟨wb.heap.size,0,none⟩) 1 1) (by rw [info70_5];rfl) (by kernel_rfl) (fun o ho=>ex_build97 ho (u:=v18) (tm_put_same (by omega)) hc18 ⟨ad,ln,cp,hv18⟩) (.inl rfl) (fun _=>Sb _ (hbb.alloc hbb.size _)) ?_
 obtain ⟨wc,hwc⟩:∃ wc,wc=wb.alloc (.cells #[v18] 37):=⟨_,rfl⟩
 rw [<- hwc];have hbc:Below w.heap.size w wc:=by rw [hwc];exact hbb.alloc hbb.size _
 have hszc:wc.heap.size=wb.heap.size+1:=by rw [hwc];simp
 have holdc:∀ k,k<wb.heap.size->wc.heap[k]? = wb.heap[k]? := fun k hk=>by rw [hwc];exact heap_alloc_old wb _ hk
 have hownc:wc.ownsRow 0 37 1 v us.length us:=owns_keep hown fun g hg'=>hbc.block g (HL.lt _ M w g hG.1 (hRh g hg'))
 have hcc:wc.cell? ⟨wb.heap.size,0,none⟩=some v18:=cell_at (by rw [hwc];exact heap_alloc_new wb _) rfl;obtain ⟨o7,i7,d7,p7,q7⟩:=infoAt (ops:=r70_5) rfl (i:=7) (x:=(some 20,.call { callee:=.builtin .append,args := #[.tmp 14,.tmp 19],argTypes := #[116,116] },none)) (by rw [info70_5];rfl)
 simp only at d7 p7 q7;obtain ⟨a7,ha7⟩:∃ a7,a7=(a5.put (some 18) v18).put (some 19) (.slice (some ⟨wb.heap.size,0,none⟩) 1 1):=⟨_,rfl⟩
 rw [<- ha7];have z7:a7.tmps.size=24:=by rw [ha7];simp only [size_put];exact z5
 have lb:=hbb.size;obtain ⟨v2,wd,hrd,hownd,hgrd,hblk⟩:=ex_app97 (a:=a7) (w:=wc) p7 (v:=v) (us:=us) (x:=v18) (b:=wb.heap.size)
  (by rw [ha7,tm_put_other (by omega),tm_put_other (by omega),ha5,tm_put_other (by omega),ha4,tm_put_other (by omega),tm_put_other (by omega),tm_put_same (by simp only [size_put];omega)]) (by rw [ha7,tm_put_same (by simp only [size_put];omega)]) hownc hcc (by rw [hv18];rfl) (by omega)
 have hXne:ownB v≠some X:=fun e=>hdis X e rfl
 have h1ne:ownB v≠some b1:=fun e=>h1h (hRh b1 e)
 have hXd:wd.heap[X]? = some (.cells #[x0,x1,x2,v] 118 (0,0)):=by rw [hgrd.block X (by omega) (fun e=>hXne e.symm),hbc.block X lX];exact hX
 have h1d:wd.heap[b1]? = some (.cells #[.int .i64 p,y1] T1 (0,0)):=by rw [hgrd.block b1 (by omega) (fun e=>h1ne e.symm),hbc.block b1 l1];exact hb1
 have Sd:S wd:=by rw [hS];exact ⟨hXd,h1d⟩
 refine held_stepO (i:=7) (v:=v2) (w':=wd) i7 d7 q7 (by kernel_rfl) hrd (.inl rfl) (fun _=>Sd) ?_;have hr8:∀ (o:Oper),o.op = .fieldAddr 118 (.tmp 3) 1->∀ w',(execOp (a7.put (some 20) v2).eval o).run Tryz.prog w' = .ok (.value (.pointer (some ⟨X,3,none⟩))) w':=fun o ho w'=>by
  have e:(a7.put (some 20) v2).eval (.tmp 3) = .pointer (some ⟨X,0,none⟩):=by
   show tm _ 3=_;rw [tm_put_other (by omega),ha7,tm_put_other (by omega),tm_put_other (by omega),ha5,tm_put_other (by omega),ha4,tm_put_other (by omega),tm_put_other (by omega),tm_put_other (by omega),tm_put_other (by omega)];exact t3
  simp only [execOp,ho,e];simp [go_sem]
 refine held_step (i:=8) (dst:=some 21) (v:=.pointer (some ⟨X,3,none⟩)) (by rw [info70_5];rfl) (by kernel_rfl) (fun o ho=>hr8 o ho wd) (.inl rfl) (fun _=>Sd) ?_;obtain ⟨hov1,hov2⟩:=own_one hownd;refine held_step (i:=9) (dst:=none) (v:=undef) (by rw [info70_5];rfl) (by kernel_rfl) (fun o ho=>ex_storeAt (T:=116) (t:=.list LLT) (by kernel_rfl) rfl ho (b:=X) (j:=3) (u:=v2) (tm_put_same (by simp only [size_put];omega)) (by rw [tm_put_other (by omega),tm_put_same (by omega)]) hov1 hov2 hXd (by show 3<4;omega)) (.inr ⟨rfl,rfl⟩) (fun h=>absurd rfl h) ?_
 refine held_done (by kernel_rfl) ?_ _;rw [put_none];obtain ⟨we,hwe⟩:∃ we,we=wd.setRow X (#[x0,x1,x2,v].setIfInBounds 3 v2):=⟨_,rfl⟩
 rw [<- hwe];have hsze:we.heap.size=wd.heap.size:=by rw [hwe];exact setRow_size
 have hXe:we.heap[X]? = some (.cells #[x0,x1,x2,v2] 118 (0,0)):=by rw [hwe];exact setRow_same hXd
 have hothe:∀ k,k≠X->we.heap[k]? = wd.heap[k]? := fun k hk=>by rw [hwe];exact setRow_other hk
 have hout:∀ k,k<wb.heap.size->¬ HL.hb (some (X,r,xs):SL) w k->we.heap[k]? = wb.heap[k]? := fun k hk hB=>by
  rw [hothe k fun e=>hB (e ▸ hXh),hgrd.block k (by omega) (fun e=>hB (hRh k e.symm)),holdc k hk]
 have hv2ne:∀ g,ownB v2=some g->g≠X:=fun g hg'=>by
  rcases hblk with h|h
  . exact hdis g (h ▸ hg')
  . rw [h] at hg';cases hg';omega
 have hgsz:=hgrd.size;obtain ⟨M',hM'⟩:∃ M':Mut,M'=fun b o=>M2 b o\/(wb.heap.size<=b/\b<we.heap.size):=⟨_,rfl⟩
 have hhM:∀ b o,HL.hb (some (X,r,xs):SL) w b->M2 b o:=fun b o hB=>hM2 b o ((hG.2.2 b hB).2.1 o)
 have hst2:Stable M2 wb M' we:=fun b o u hcb hm=>by
  have hnb:¬ HL.hb (some (X,r,xs):SL) w b:=fun hB=>hm (hhM b o hB)
  refine ⟨(World.cell?_of_block (a:=⟨b,o,none⟩) (hout b (cell_lt hcb) hnb)).trans hcb,fun h=>?_⟩;rw [hM'] at h;rcases h with h|⟨h,_⟩
  . exact hm h
  . have:=cell_lt hcb;omega
 have hst1:Stable M w M2 wb:=fun b o u hcb hm=>by
  refine ⟨(World.cell?_of_block (a:=⟨b,o,none⟩) (hbb.block b (cell_lt hcb))).trans hcb,fun h=>?_⟩;rcases hM2' b o h with h|⟨h,_⟩
  . exact hm h
  . have:=cell_lt hcb;have h:w.heap.size<=b:=h;omega
 have hst:Stable M w M' we:=fun b o u hcb hm=>by
  obtain ⟨e1,e2⟩:=hst1 b o u hcb hm;exact hst2 b o u e1 e2
 have hce:we.cell? ⟨X,3,none⟩=some v2:=cell_at hXe rfl;have hI':HL.I (some (X,r,xs++[storT tr place]):SL) M' we:=by
  intro X' r' xs' e;cases e;refine ⟨x0,x1,x2,v2,us++[v18],hXe,RepC.mono hst _ _ _ hrc,by simp [hul],owns_keep hownd fun g hg'=>hothe g (hv2ne g hg'),fun j u l hu hl=>?_,hv2ne⟩;rcases Nat.lt_or_ge j us.length with hj|hj
  . rw [List.getElem?_append_left hj] at hu;rw [List.getElem?_append_left (by omega)] at hl;exact RepC.mono hst _ _ _ (hreps j u l hu hl)
  . rw [List.getElem?_append_right hj] at hu;rw [List.getElem?_append_right (by omega)] at hl;have:j - us.length=0:=by
     rcases Nat.eq_zero_or_pos (j - us.length) with h|h
     . exact h
     . rw [List.getElem?_eq_none (by simp;omega)] at hu;cases hu
    rw [this] at hu;rw [<- hul,this] at hl;cases hu;cases hl;exact RepC.mono hst2 _ _ _ hrep18
 have hfr3:Fr (fun k=>k<w.heap.size/\¬ HL.hb (some (X,r,xs):SL) w k) w we:=by
  refine ⟨?_,?_,?_,?_,fun k hk=>(hout k (by omega) hk.2).trans (hbb.block k hk.1)⟩
  . rw [hwe];show wd.os=w.os;rw [hgrd.os,hbc.os]
  . rw [hwe];show wd.tape=w.tape;rw [hgrd.tape,hbc.tape]
  . rw [hwe];show wd.output=w.output;rw [hgrd.output,hbc.output]
  . rw [hsze];omega
 have hbs:∀ b,HL.hb (some (X,r,xs++[storT tr place]):SL) we b->HL.hb (some (X,r,xs):SL) w b\/wb.heap.size<=b:=by
  rintro b ⟨X',r',xs',e,hb|⟨u,hu,hub⟩⟩
  . cases e;exact .inl (hb ▸ hXh)
  . cases e;rw [hce] at hu;cases hu;rcases hblk with h|h
    . exact .inl (hRh b (h ▸ hub))
    . rw [h] at hub;cases hub;exact .inr (by omega)
 obtain ⟨f1,f2⟩:=hG.grow (s':=(some (X,r,xs++[storT tr place]):SL)) (M':=M') (w':=we) hfr3 hI' (fun b o h=>by rw [hM'];exact .inr (.inl (hM2 b o h))) (fun b o h=>by
  rw [hM'] at h;rcases h with h|h
  . rcases hM2' b o h with h|⟨h,h2⟩
    . exact .inl h
    . have h:w.heap.size<=b:=h;exact .inr ⟨h,by omega⟩
  . exact .inr ⟨by omega,h.2⟩) (fun b hb=>(hbs b hb).imp id fun h=>by omega) fun b hb o=>by
  rw [hM'];rcases hbs b hb with h|h
  . exact .inl (hhM b o h)
  . exact .inr ⟨h,HL.lt _ _ _ b hI' hb⟩
 have hall:=undAll_ok f2 [(13,.pointer (some ⟨X,3,none⟩)),(14,v),(15,.agg #[.int .i64 p,y1]),(16,.int .i64 place),(17,v17),(18,v18),(19,.slice (some ⟨wb.heap.size,0,none⟩) 1 1),(20,v2),(21,.pointer (some ⟨X,3,none⟩))] _ act f2 (noBoxes_drop hnb)
 rw [ha7,ha5,ha4];exact hQ .normal _ _ _ _ ⟨hfr.trans f1,M',hall⟩ h'
end Go.V
namespace Go.V
open Go.Proofs
def specs70:List Spec:=[sp58]
def hints70:List (Nat×List Nat):=[(3,[1,2,3,9,10])]
def specsQ70 (s:SL):List Spec:=[sp58]
def r70_1:Array Oper:=regAt 1 (bodyOf Tryz.f85)
def D70_1:Nat->Option (Nat×(SL->St->Bool×Outs HL)):=fun i=>match i with|2=>some (2,tolG 24 6 3 7)|_=>none
theorem D70_1_ok:∀ i y,D70_1 i=some y->HandQ Tryz.prog HL r70_1 i y.1 y.2:=by
 intro i y h
 unfold D70_1 at h
 split at h
 . cases h;exact tol_ok (i:=2) (by decide) (by decide) (by decide) (by decide) (by kernel_rfl) (by kernel_rfl) (by kernel_rfl)
 . cases h
def r70_7:Array Oper:=regAt 7 (bodyOf Tryz.f85)
def D70_7:Nat->Option (Nat×(SL->St->Bool×Outs HL)):=fun i=>match i with|0=>some (0,tolL 24 3 23)|_=>none
theorem D70_7_ok:∀ i y,D70_7 i=some y->HandQ Tryz.prog HL r70_7 i y.1 y.2:=by
 intro i y h
 unfold D70_7 at h
 split at h
 . cases h;exact (tolL_ok (i:=0) (by kernel_rfl)).one
 . cases h
def T70:List (List Nat×HdH HL):=[([1,0],⟨fun {ρ} k s st=>regQ Tryz.prog HL (fun s=>phi (specsQ70 s)) hints70 D70_1 1 r70_1 k s st⟩),
 ([1,1,0,1,0,0,1,1,0,0,1],⟨fun {ρ} k s st=>E70_5 k s st⟩),
 ([1,1,1,0],⟨fun {ρ} k s st=>regQ Tryz.prog HL (fun s=>phi (specsQ70 s)) hints70 D70_7 7 r70_7 k s st⟩)]
theorem allQ70 (h:∀ s,∀ sp∈specsQ70 s,CallH Tryz.prog HL s sp):AllQ Tryz.prog HL (bodyOf Tryz.f85) (T70):=(allQ_cons (c' := .region 1 r70_1 false) (by kernel_rfl) (regQ_ok (fun s g sp hs=>h s sp (List.mem_filter.1 hs).1) hints70 D70_1_ok) (allQ_cons (c' := .region 5 r70_5 true) (by kernel_rfl) E70_5_ok (allQ_cons (c' := .region 7 r70_7 false) (by kernel_rfl) (regQ_ok (fun s g sp hs=>h s sp (List.mem_filter.1 hs).1) hints70 D70_7_ok) allQ_nil)))
def L70_0 (N:Nat) (n_L70_0:Nat) (v_3:Value) (x:lt1) (r_1:lt3) (t_4:Int) (t_5:(List (Int×lt0))) (t2_6:Int) (t2_7:(List (Int×lt0))) (t2_8:(List (List Int))) (t2_9:(List (List (List Int)))) (t10_10:Int) (xss_11:(List (List (List Int)))):Out (SL×lt11) :=
 vloopQ Tryz.prog HL (phi specs70) hints70 N (T70) Tryz.f85 false false ty32 [1,1,0,1,0] n_L70_0 ((some (((ptrB v_3)),r_1,xss_11):SL)) [U,.box [.d (.int .i64) t_4,.d ty0 t_5],.box [.d (.int .i64) t2_6,.own ty20 t2_7 false,.own (.list (.int .i64)) t2_8 false,.own ty1 t2_9 false],.d .raw ((ptrV (ptrB v_3))),U,U,U,U,U,.d (.int .i64) x.1.1,.d (.int .i64) t10_10,U,U,U,U,U,U,U,U,U,U,U,U,U]
theorem L70_0_succ (N:Nat) (n_L70_0:Nat) (v_3:Value) (x:lt1) (r_1:lt3) (t_4:Int) (t_5:(List (Int×lt0))) (t2_6:Int) (t2_7:(List (Int×lt0))) (t2_8:(List (List Int))) (t2_9:(List (List (List Int)))) (t10_10:Int) (xss_11:(List (List (List Int)))):L70_0 N  (n_L70_0+1) v_3 x r_1 t_4 t_5 t2_6 t2_7 t2_8 t2_9 t10_10 xss_11 =
 (match (decide (t10_10<x.1.1)) with|true=>bif (tolB xss_11.length ((t_4,(t_5,()))) t10_10 ((ptrV (ptrB v_3))) (ptrV ((ptrB v_3)))) then L70_0 N n_L70_0 v_3 x r_1 t_4 t_5 t2_6 t2_7 t2_8 t2_9 (IntKind.i64.wrap (t10_10+1)) ((xss_11++[storT ((t_4,(t_5,()))) t10_10])) else .fail|false=>bif (isV ((ptrV (ptrB v_3))) (ptrV ((ptrB v_3)))) then .ret (((none:SL)),(r_1,(xss_11,()))) else .fail:Out (SL×lt11)):=by kernel_rfl
def F70 (N:Nat) (x:lt1):Out (SL×lt11):=match f58 (x.1,()) with | .ret r_1=>(allOf fun (v_3:Value)=>L70_0 N N v_3 x r_1 x.1.1 x.1.2.1 0 ([]:List (Int×lt0)) [] ([]:List (List (List Int))) 0 (([]:List LL))) | .pan p_2=>.fail | .fail=>.fail
theorem e70 (N:Nat) (x:lt1):vfnQ Tryz.prog HL (phi specs70) hints70 N (T70) Tryz.f85 false false ty2 ty32 ((none:SL)) x=F70 N x:=by kernel_rfl
def f70 (x:lt1):Out lt11:=dropG (F70 fuel x)
def sp70:Spec:=⟨85,.call,ty2,ty32,false,false,f70⟩
theorem c70:Contract Tryz.prog sp70:=contract_drop (H:=HL) (none:SL) HL_none (fun M w=>HL_I_none M w) (l:=specs70) (fun sp hs=>(by simp only [specs70,List.mem_cons,List.not_mem_nil,or_false] at hs;rcases hs with rfl<;>first|exact c58)) Tryz.func85 rfl (allQ70 fun s sp hs=>.inl (by simp only [specsQ70,List.mem_cons,List.not_mem_nil,or_false] at hs;rcases hs with rfl<;>first|exact c58)) hints70 fuel (e70 fuel)
end Go.V
end
