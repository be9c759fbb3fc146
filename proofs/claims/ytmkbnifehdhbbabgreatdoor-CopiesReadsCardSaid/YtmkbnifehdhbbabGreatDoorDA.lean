/- Part. -/
import Derived.Test.YtmkbnifehdhbbabGreatDoorCX
set_option linter.all false
noncomputable section
namespace Go.V
open Go.Proofs
open Go.RowKit (Below)
abbrev mw:Ty:=.list (.list (.int .i64))
abbrev LL:Type:=List (List Int)
abbrev gH:Ty:=.prod df (.prod (.list mw) .unit)
abbrev bU:Type:=TR×List LL×Unit
abbrev SL:Type:=Option (Nat×TR×List LL)
def K4 (M:ai) (w:World) (X:Nat) (r:TR) (xs:List LL) (x0 x1 x2 v:Value) (us:List Value):Prop :=
 w.heap[X]? = some (.cells #[x0,x1,x2,v] 118 (0,0))/\af M w df [x0,x1,x2] r/\us.length=xs.length/\w.ownsRow 0 37 1 v us.length us/\(∀ (i:Nat) u x,us[i]? = some u->xs[i]? = some x->af M w mw [u] x)/\∀ g,ag v=some g->g≠X
def HL:Hole where
 σ:=SL
 hb s w b:=∃ X r xs,s=some (X,r,xs)/\(b=X\/∃ v,w.cell? ⟨X,3,none⟩=some v/\ag v=some b)
 I s M w:=∀ X r xs,s=some (X,r,xs)->∃ x0 x1 x2 v us,K4 M w X r xs x0 x1 x2 v us
 keep s M w M' w' h hst hk:=by
  intro X r xs e;obtain ⟨x0,x1,x2,v,us,h3,h4,h5,h6,h7,h8⟩:=h X r xs e;have hc:w.cell? ⟨X,3,none⟩=some v:=cj h3 rfl;exact ⟨x0,x1,x2,v,us,(hk X ⟨X,r,xs,e,.inl rfl⟩).trans h3,af.mono hst _ _ _ h4,h5,gV h6 fun g hg=>hk g ⟨X,r,xs,e,.inr ⟨v,hc,hg⟩⟩,fun i u x e1 e2=>af.mono hst _ _ _ (h7 i u x e1 e2),h8⟩
 same s M w w' h hk b hb:=by
  obtain ⟨X,r,xs,e,hb|⟨v,hv,hvb⟩⟩:=hb
  . exact ⟨X,r,xs,e,.inl hb⟩
  . refine ⟨X,r,xs,e,.inr ⟨v,?_,hvb⟩⟩;rw [<- hv];exact (World.cell?_of_block (a:=⟨X,3,none⟩) (hk X ⟨X,r,xs,e,.inl rfl⟩)).symm
 lt s M w b h hb:=by
  obtain ⟨X,r,xs,e,hb⟩:=hb;obtain ⟨x0,x1,x2,v,us,h3,h4,h5,h6,h7,h8⟩:=h X r xs e;rcases hb with rfl|⟨v',hv,hvb⟩
  . exact (Array.getElem?_eq_some_iff.1 h3).1
  . have hc:w.cell? ⟨X,3,none⟩=some v:=cj h3 rfl;rw [hc] at hv;cases hv;obtain ⟨cur,e⟩:=gC h6 hvb;exact (Array.getElem?_eq_some_iff.1 e).1
 nd s M w b c h hb e2:=by
  obtain ⟨X,r,xs,e,hb⟩:=hb;obtain ⟨x0,x1,x2,v,us,h3,h4,h5,h6,h7,h8⟩:=h X r xs e;rcases hb with rfl|⟨v',hv,hvb⟩
  . rw [h3] at e2;cases e2
  . have hc:w.cell? ⟨X,3,none⟩=some v:=cj h3 rfl;rw [hc] at hv;cases hv;obtain ⟨cur,e⟩:=gC h6 hvb;rw [e] at e2;cases e2
theorem Dn (w:World) (b:Nat):¬ HL.hb (none:SL) w b:=by
 rintro ⟨X,r,xs,e,_⟩;cases e
theorem Dm (M:ai) (w:World):HL.I (none:SL) M w:=fun X r xs e=>by cases e
def kf (v:Value):Nat:=match v with | .pointer (some a)=>a.block|_=>0
def d9 (X:Nat):Value:=.pointer (some ⟨X,0,none⟩)
theorem Uj {w:World} {E n:Nat} {v:Value} {us:List Value} (h:w.ownsRow 0 E 1 v n us):v.oneCell'=true/\v.cells = #[v]:=by
 rcases h.2 with ⟨rfl,_⟩|⟨g,cap,cur,rfl,_⟩<;>exact ⟨rfl,rfl⟩
def rJ (nt p d t:Nat) (s:HL.σ) (st:St):Bool×Outs HL :=
 match get st p with
 | .d (.prod (.prod (.int .i64) (.prod (.list (.prod (.int .i64) (.prod (.list (.int .i64)) .unit))) .unit)) (.prod (.list (.list (.int .i64))) .unit)) r=>((st.length==nt && bL [t,d] st) && Option.isNone (show SL from s),.each fun v=>((some (kf v,(show TR from r),[]):SL),(bE [t] st).set d (.d .raw (d9 (kf v)))))
 | _=>(false,.some [])
theorem Pi {act:Act} {w:World} {o:Oper} {a:Nat} (ho:o.op = .build 118 #[(0,.tmp a),(1,.const (.slice none 0 0))]) {x0 x1 x2:Value} (ha:tm act a = .agg #[x0,x1,x2])
 (c0:x0.cells = #[x0]) (c1:x1.cells = #[x1]) (c2:x2.cells = #[x2]):(execOp act.eval o).run Tryz.prog w = .ok (.value (.agg #[x0,x1,x2,.slice none 0 0])) w:=by
 have e0:act.eval (.tmp a) = .agg #[x0,x1,x2]:=ha;have e1:act.eval (.const (.slice none 0 0)) = .slice none 0 0:=rfl;simp only [execOp,ho,List.map_toArray,List.map_cons,List.map_nil,e0,e1];simp [go_sem]
theorem P1 {a:Act} {w:World} {o:Oper} (ho:o.op = .alloc 118):(execOp a.eval o).run Tryz.prog w = .ok (.value (.pointer (some ⟨w.heap.size,0,none⟩))) (w.alloc (.cells #[.int .i64 0,.slice none 0 0,.slice none 0 0,.slice none 0 0] 118)):=by
 simp only [execOp,ho];simp [go_sem]
theorem Px {a:Act} {w:World} {o:Oper} {p q:Nat} (ho:o.op = .store 118 (.tmp p) (.tmp q)) {X:Nat} {y0 y1 y2 y3 x0 x1 x2 x3:Value} (hp:tm a p=d9 X) (hq:tm a q = .agg #[x0,x1,x2,x3]) (hX:w.heap[X]? = some (.cells #[y0,y1,y2,y3] 118 (0,0)))
 (c0:x0.oneCell'=true) (c1:x1.oneCell'=true) (c2:x2.oneCell'=true) (c3:x3.oneCell'=true):(execOp a.eval o).run Tryz.prog w = .ok .skip (w.setRow X #[x0,x1,x2,x3]):=by
 have e3:a.eval (.tmp p) = .pointer (some ⟨X,0,none⟩):=hp;have e11:a.eval (.tmp q) = .agg #[x0,x1,x2,x3]:=hq;have hrun:=ki (P:=Tryz.prog) (n:=9) (T:=118) (t:=gH) (by kernel_rfl) (o:=0) (v:=.agg #[x0,x1,x2,x3]) rfl hX (by show 0+4<=4;omega) (by
  intro u hu;have hu':u=x0\/u=x1\/u=x2\/u=x3:=by simpa [Value.cells] using hu
  rcases hu' with rfl|rfl|rfl|rfl<;>assumption)
 simp only [execOp,ho,e3,e11,Instr.storeAt,Instr.sureAddr,Sem.run_bind,Sem.run_pure,Result.andThen_ok];rw [hrun];rfl
theorem Wf {ops:Array Oper} {i p d t nt:Nat} (ht:t<nt) (hd:d<nt) (htd:t≠d) (hpt:p≠t) (x0:(ops.toList.map a_)[i]? = some (some t,.build 118 #[(0,.tmp p),(1,.const (.slice none 0 0))],none)) (x1:(ops.toList.map a_)[i+1]? = some (some d,.alloc 118,none))
 (x2:(ops.toList.map a_)[i+2]? = some (none,.store 118 (.tmp d) (.tmp t),none)):bw Tryz.prog HL ops i 2 (rJ nt p d t):=by
 intro F M0 w0 n hI hpl Q rest s st act w hc h1 hK;obtain ⟨o0,i0,d0,p0,q0⟩:=aB rfl x0;obtain ⟨o1,i1,d1,p1,q1⟩:=aB rfl x1;obtain ⟨o2,i2,d2,p2,q2⟩:=aB rfl x2;simp only at d0 p0 q0 d1 p1 q1 d2 p2 q2;unfold rJ at h1;split at h1;rotate_left
 . cases h1
 rename_i r ea;simp only [Bool.and_eq_true,beq_iff_eq] at h1;obtain ⟨⟨hlen,hnb⟩,hs⟩:=h1;have hs:s=(none:SL):=Option.isNone_iff_eq_none.1 hs;subst hs;obtain ⟨hfr,M,hG⟩:=id hc;have hg:=hG.2.1;have hsz:act.tmps.size=nt:=hg.size.trans hlen;have sa:=hg.slot p;rw [ea] at sa;obtain ⟨y0,y1,y2,ta,c0,c1,c2,hrc⟩:=JG (show aw M w df (tm act p) r from sa);show wpOpsIn (aA none) n Tryz.prog ops Q (i :: (i+1) :: (i+2) :: rest) act w;rw [wpOpsIn_cons];refine aV i0 (aC q0) (fun c h=>by rw [p0] at h;cases h) (Pi p0 ta c0.1 c1.1 c2.1) ?_;rw [d0,wpOpsIn_cons];refine aV i1 (aC q1) (fun c h=>by rw [p1] at h;cases h) (P1 p1) ?_;rw [d1,wpOpsIn_cons];refine iG i2 (aC q2) (fun c h=>by rw [p2] at h;cases h) (Px p2 (X:=w.heap.size) (ay (by simp only [aG];omega)) (by rw [aj (by omega),ay (by omega)]) (heap_alloc_new w _) c0.2 c1.2 c2.2 rfl) ?_;rw [d2,gW,xI];obtain ⟨w1,hw1⟩:∃ w1,w1=w.alloc (.cells #[y0,y1,y2,.slice none 0 0] 118):=⟨_,rfl⟩
 rw [<- hw1];have hX:w1.heap[w.heap.size]? = some (.cells #[y0,y1,y2,.slice none 0 0] 118 (0,0)):=by rw [hw1];exact heap_alloc_new w _
 have hs1:w1.heap.size=w.heap.size+1:=by rw [hw1];simp
 have hbel:Below w.heap.size w w1:=by rw [hw1];exact (Below.refl _ w).alloc (Nat.le_refl _) _
 obtain ⟨M',hM'⟩:∃ M':ai,M'=fun b o=>M b o\/b=w.heap.size:=⟨_,rfl⟩
 have hst:aL M w M' w1:=fun b o u hcb hm=>by
  have hlt:=c_ hcb;refine ⟨(World.cell?_of_block (a:=⟨b,o,none⟩) (hbel.block b hlt)).trans hcb,fun h=>?_⟩;rw [hM'] at h;rcases h with h|h
  . exact hm h
  . omega
 have hI':HL.I (some (w.heap.size,(show TR from r),[]):SL) M' w1:=fun X r' xs e=>by
  cases e;exact ⟨y0,y1,y2,.slice none 0 0,[],hX,af.mono hst _ _ _ hrc,rfl,⟨rfl,.inl ⟨rfl,rfl⟩⟩,fun i u x h=>by simp at h,fun g hg=>by cases hg⟩
 have hb':∀ b,HL.hb (some (w.heap.size,(show TR from r),[]):SL) w1 b->b=w.heap.size:=by
  rintro b ⟨X,r',xs,e,hb|⟨v,hv,hvb⟩⟩
  . cases e;exact hb
  . cases e;rw [cj hX rfl] at hv;cases hv;cases hvb
 obtain ⟨f1,f2⟩:=hG.grow (s':=(some (w.heap.size,(show TR from r),[]):SL)) (M':=M') (w':=w1) ⟨hbel.os,hbel.tape,hbel.output,hbel.size,fun k hk=>hbel.block k hk.1⟩ hI' (fun b o h=>by rw [hM'];exact .inr (.inl h)) (fun b o h=>by
  rw [hM'] at h;rcases h with h|h
  . exact .inl h
  . subst h;exact .inr ⟨Nat.le_refl _,by omega⟩) (fun b hb=>.inr (Nat.le_of_eq (hb' b hb).symm)) fun b hb o=>by
  rw [hM'];exact .inr (hb' b hb)
 have nb:∀ j∈[t,d],au (get st j)=false:=fun j hj=>by
  have:=List.all_eq_true.1 hnb j hj
  simpa using this
 have g1:=gc f2 [(t,.agg #[y0,y1,y2,.slice none 0 0])] st act f2 (List.all_eq_true.2 fun j hj=>List.all_eq_true.1 hnb j (by simp at hj ⊢;exact .inl hj));have hf:=g1.focus.fin (dst:=some d) (s:=.d .raw (d9 w.heap.size)) (v:=d9 w.heap.size) (fun d' hd'=>by
  cases hd';show au (get (st.set t .und) d)=false;rw [bu st _ _ _ (by omega),if_neg (by omega)];exact nb d (by simp)) rfl ⟨_,rfl,rfl,rfl,rfl⟩
 have hmem:(rJ nt p d t (none:SL) st).2.mem ((some (w.heap.size,(show TR from r),[]):SL),(bE [t] st).set d (.d .raw (d9 w.heap.size))):=by
  unfold rJ;rw [ea];exact ⟨d9 w.heap.size,rfl⟩
 exact hK _ hmem _ _ ⟨hfr.trans f1,M',g1.unfocus (Fr.refl _ _) hf⟩
def rK (nt p d:Nat) (s:HL.σ) (st:St):Bool×Outs HL :=
 match (show SL from s) with
 | some (X,r,xs)=>(match get st p with
  | .d .raw v'=>((st.length==nt && bL [d] st) && cK v' (d9 X),.some [((none:SL),st.set d (.d gH (r,(xs,()))))])
  | _=>(false,.some []))
 | none=>(false,.some [])
theorem We {ops:Array Oper} {i p d nt:Nat} (x0:(ops.toList.map a_)[i]? = some (some d,.load 118 (.tmp p),none)):dC Tryz.prog HL ops i (rK nt p d):=by
 intro F M0 w0 n hI hpl Q K s st act w hc h1 hK;obtain ⟨o0,i0,d0,p0,q0⟩:=aB rfl x0;simp only at d0 p0 q0;unfold rK at h1;split at h1;rotate_left
 . cases h1
 rename_i X r xs es;have es:s=(some (X,r,xs):SL):=es;subst es;split at h1;rotate_left
 . cases h1
 rename_i vD ea;obtain ⟨v',hvD⟩:∃ z:Value,z=vD:=⟨_,rfl⟩
 subst hvD;simp only [Bool.and_eq_true,beq_iff_eq] at h1;obtain ⟨⟨hlen,hnb⟩,hv⟩:=h1;have hv:=iA hv;subst hv;obtain ⟨hfr,M,hG⟩:=hc;have hg:=hG.2.1;have sp:=hg.slot p;rw [ea] at sp;have tp:tm act p=d9 X:=fp (show aw M w .raw (tm act p) (d9 X) from sp);obtain ⟨x0',x1,x2,v,us,hX,hrc,hul,hown,hreps,hdis⟩:=hG.1 X r xs rfl;have hrun:(execOp act.eval o0).run Tryz.prog w = .ok (.value (.agg #[x0',x1,x2,v])) w:=by
  have:=gr (P:=Tryz.prog) (n:=9) (T:=118) (t:=gH) (w:=w) (b:=X) (off:=0) (us':=[]) (c1:=[x0',x1,x2,v]) (by kernel_rfl) hX rfl rfl;have e:act.eval (.tmp p) = .pointer (some ⟨X,0,none⟩):=tp;simp [execOp,p0,e,Instr.loadAt,Instr.sureAddr,this,aP,Ty.agg]
 refine aV i0 (aC q0) (fun c h=>by rw [p0] at h;cases h) hrun ?_;rw [d0];obtain ⟨M',hM'⟩:∃ M':ai,M'=fun b o=>M b o/\ag v≠some b:=⟨_,rfl⟩
 have hst:aL M w M' w:=fun b o u hc hm=>⟨hc,fun h=>by rw [hM'] at h;exact hm h.1⟩
 have hhb:∀ b,ag v=some b->HL.hb (some (X,r,xs):SL) w b:=fun b hb=>⟨X,r,xs,rfl,.inr ⟨v,cj hX rfl,hb⟩⟩
 have hG':bv HL F M0 (none:SL) M' st act w:=by
  refine ⟨Dm _ _,?_,fun b hb=>absurd hb (Dn w b)⟩;refine hg.world hst (Nat.le_refl _) (fun b o hm=>?_) (fun b o hm=>?_) (fun b o hF hm=>?_) (bF.refl _) fun i k b ho=>⟨rfl,fun o hm=>?_⟩
  . rw [hM'];exact ⟨hg.up b o hm,fun hb=>(hG.2.2 b (hhb b hb)).1 (hg.base b o hm)⟩
  . rw [hM'] at hm;exact hg.lt b o hm.1
  . rw [hM'] at hm;exact hg.down b o hF hm.1
  . rw [hM'];exact ⟨hm,fun hb=>(hG.2.2 b (hhb b hb)).2.2 i k ho⟩
 have hl:af M' w (.list mw) [v] xs:=by
  rcases hown.2 with ⟨rfl,h0⟩|⟨g,cap,cur,rfl,_,hgg,hle',_,hcs',htk⟩
  . have:xs=[]:=List.eq_nil_of_length_eq_zero (by omega);subst this;exact af.list_nil _
  . refine ⟨some ⟨g,0,none⟩,cap,by rw [hul];rfl,by rw [hul] at hle';exact hle',fun j hj=>?_⟩;have hj':j<xs.length:=hj;have hju:j<us.length:=by omega
    refine ⟨g,0,[us[j]],rfl,rfl,fun k hk=>?_,af.mono hst _ _ _ (hreps j us[j] xs[j] (List.getElem?_eq_getElem hju) (List.getElem?_eq_getElem hj'))⟩;have:k=0:=by simpa using hk
    subst this;simp only [Ty.size,Nat.mul_one,Nat.zero_add,Nat.add_zero];refine ⟨?_,fun h=>by rw [hM'] at h;exact h.2 rfl⟩;rw [cell_of_row w g j cur 37 (0,0) hgg];have h2:(cur.toList.take (us.length * 1))[j]? = some us[j]:=by rw [htk];exact List.getElem?_eq_getElem hju
    rw [List.getElem?_take,if_pos (by omega),Array.getElem?_toList] at h2;exact h2
 have hnb':au (get st d)=false:=by
  have:=List.all_eq_true.1 hnb d (by simp)
  simpa using this
 have hrepT:aw M' w gH (.agg #[x0',x1,x2,v]) (r,(xs,())):=⟨[x0',x1,x2,v],rfl,[x0',x1,x2],[v],rfl,af.mono hst _ _ _ hrc,[v],[],rfl,hl,rfl⟩
 have hf:=hG'.focus.fin (dst:=some d) (s:=.d gH (r,(xs,()))) (v:=.agg #[x0',x1,x2,v]) (fun d' hd=>by cases hd;exact hnb') rfl hrepT;have hmem:(rK nt p d (some (X,r,xs):SL) st).2.mem ((none:SL),st.set d (.d gH (r,(xs,())))):=by
  unfold rK;dsimp only;rw [ea];exact .head _
 exact hK _ hmem _ _ ⟨hfr,M',hG'.unfocus (Fr.refl _ _) hf⟩
open Go.RowKit (Below)
section
variable {P : Program} {ops : Array Oper} {Q : Exit → Act → World → Prop} {S : World → Prop} {t : Nat}
theorem FN {i:Nat} {dst:Option Nat} {op:Op} {fuel:Nat} {L:Array Bool} {a:Act} {w:World} (hx:(ops.toList.map a_)[i]? = some (dst,op,none)) (hr:Region.ready .any ops L=[i]) {f:FuncId} {args:Array Value}
 (hrun:∀ o:Oper,o.op=op->(execOp a.eval o).run P w = .ok (.enter f args) w) (hc:Calls P f args w fun e w2=>∃ v,e = .returned v/\(i≠t->S w2)/\dI P ops Q S t fuel (L.setIfInBounds i true) (a.put dst v) w2):dI P ops Q S t (fuel+1) L a w:=by
 obtain ⟨o,hi,hd,ho,hg⟩:=aB rfl hx;simp only at hd ho hg;refine ⟨fun h0=>(by rw [h0] at hr;cases hr),fun j hj=>?_⟩;rw [hr,List.mem_singleton] at hj;subst hj;unfold wpOp;simp only [hi,aC hg,if_true];left;have:=hrun o ho;unfold Oper.wp;rw [this];simp only [Oper.upon];refine hc.mono ?_;rintro e w2 ⟨v,rfl,h1,h2⟩;rw [hd];exact ⟨h1,h2⟩
end
def lO:Array Oper:=bp 5 (av Tryz.f85)
theorem iz:lO.toList.map a_=[(some 13,.fieldAddr 118 (.tmp 3) 1,none),(some 14,.load 116 (.tmp 13),none),(some 15,.load 24 (.tmp 1),none),(some 16,.move (.tmp 4),none),
 (some 17,.call { callee:=.value (.func 71),args := #[.tmp 15,.tmp 16],argTypes := #[24,3] },none),(some 18,.call { callee:=.value (.func 83),args := #[.tmp 17],argTypes := #[102] },none),(some 19,.buildSlice 116 1 #[(0,.tmp 18)],none),
 (some 20,.call { callee:=.builtin .append,args := #[.tmp 14,.tmp 19],argTypes := #[116,116] },none),(some 21,.fieldAddr 118 (.tmp 3) 1,none),(none,.store 116 (.tmp 21) (.tmp 20),none)]:=by kernel_rfl
def ou (n:Nat) (t:ac) (place:Int) (v X:Value):Bool:=cK v X && (decide (n<999999999) && preS t place)
def rW {ρ:Type} (k:X->HL.σ->St->Out ρ) (s:HL.σ) (st:St):Out ρ :=
 match (show SL from s) with
 | some (X,r,xs)=>(match get st 3 with
  | .d .raw v'=>(match get st 1 with
   | .box [.d (.int .i64) p,.d (.list (.prod (.int .i64) (.prod (.list (.int .i64)) .unit))) cs]=>(match get st 4 with
    | .d (.int .i64) place=>bif (st.length==24 && bL [13,14,15,16,17,18,19,20,21] st) && ou xs.length (p,(cs,())) place v' (d9 X) then k .normal (some (X,r,xs++[aq (p,(cs,())) place])) (bE [13,14,15,16,17,18,19,20,21] (st.map aR)) else .fail
    | _=>.fail)
   | _=>.fail)
  | _=>.fail)
 | none=>.fail
theorem Ph {a:Act} {w:World} {o:Oper} {q:Nat} (ho:o.op = .buildSlice 116 1 #[(0,.tmp q)]) {u:Value} (h1:tm a q=u) (hu:u.cells = #[u]) (hz:∃ ad n c,u = .slice ad n c):(execOp a.eval o).run Tryz.prog w = .ok (.value (.slice (some ⟨w.heap.size,0,none⟩) 1 1)) (w.alloc (.cells #[u] 37)):=by
 obtain ⟨ad,n,c,rfl⟩:=hz;have e1:a.eval (.tmp q) = .slice ad n c:=h1;simp only [execOp,ho,List.map_toArray,List.map_cons,List.map_nil,e1];simp [go_sem]
theorem O' {a:Act} {w:World} {o:Oper} {p q:Nat} {v:Value} {us:List Value} {x:Value} {b:Nat} (ho:o.op = .call { callee:=.builtin .append,args := #[.tmp p,.tmp q],argTypes := #[116,116] }) (h0:tm a p=v) (h1:tm a q = .slice (some ⟨b,0,none⟩) 1 1)
 (hown:w.ownsRow 0 37 1 v us.length us) (hc:w.cell? ⟨b,0,none⟩=some x) (hx:x.oneCell'=true) (hlen:us.length<1000000000) :
 ∃ v' w',(execOp a.eval o).run Tryz.prog w = .ok (.value v') w'/\w'.ownsRow 0 37 1 v' (us++[x]).length (us++[x])/\w.grownBy w' (ag v)/\(ag v'=ag v\/ag v'=some w.heap.size):=by
 have e0:a.eval (.tmp p)=v:=h0;have e1:a.eval (.tmp q) = .slice (some ⟨b,0,none⟩) 1 1:=h1;obtain ⟨v',w',g1,g2⟩:=xK (P:=Tryz.prog) (w:=w) (t:=116) (ty:=o.type) (e:=37) (i:=(Tryz.prog.info? 37).getD default) (z:=.slice none 0 0) (by kernel_rfl) (by kernel_rfl) (by kernel_rfl) (by kernel_rfl) (of_decide_eq_true (by kernel_rfl)) (by kernel_rfl) hown hc hx hlen;refine ⟨v',w',?_,g2⟩;simp [execOp,ho,resolve,e0,e1,invoke,builtin,g1]
theorem UV {M:ai} {w:World} {e:Ty} {v:Value} {x:List e.den} (h:aw M w (.list e) v x):(∃ ad n c,v = .slice ad n c)/\af M w (.list e) [v] x:=by
 obtain ⟨cs,rfl,hc⟩:=h;obtain ⟨ad,cap,e1,_⟩:=id hc;subst e1;exact ⟨⟨_,_,_,rfl⟩,hc⟩
set_option maxRecDepth 8000 in
theorem KK:h_ Tryz.prog HL (.region 5 lO true) (fun {ρ} k s st=>rW k s st):=by
 intro ρ fin hf hr F M0 w0 n hI hpl k Q hQ s st act w hc h;have h':rW k s st=fin:=h;clear h;unfold rW at h';split at h';rotate_left
 . exact absurd h'.symm hf
 rename_i X r xs es;have es:s=(some (X,r,xs):SL):=es;subst es;split at h';rotate_left
 . exact absurd h'.symm hf
 rename_i vD e3;obtain ⟨v',hvD⟩:∃ z:Value,z=vD:=⟨_,rfl⟩
 subst hvD;split at h';rotate_left
 . exact absurd h'.symm hf
 rename_i p cs e1;split at h';rotate_left
 . exact absurd h'.symm hf
 rename_i placeD e4;obtain ⟨place,hplD⟩:∃ z:Int,z=placeD:=⟨_,rfl⟩
 subst hplD;cases hcd:((st.length==24 && bL [13,14,15,16,17,18,19,20,21] st) && ou xs.length (p,(cs,())) place v' (d9 X)) with
 | false=>rw [hcd] at h';exact absurd h'.symm hf
 | true =>
 rw [hcd] at h';unfold ou at hcd;simp only [Bool.and_eq_true,beq_iff_eq,decide_eq_true_eq] at hcd;obtain ⟨⟨hlen,hnb⟩,hv,hxl,hpre⟩:=hcd;have hv:=iA hv;subst hv;have h':k .normal (some (X,r,xs++[aq (p,(cs,())) place])) (bE [13,14,15,16,17,18,19,20,21] (st.map aR))=fin:=h';obtain ⟨tr,htr⟩:∃ tr:ac,tr=(p,(cs,())):=⟨_,rfl⟩
 have h':k .normal (some (X,r,xs++[aq tr place])) (bE [13,14,15,16,17,18,19,20,21] (st.map aR))=fin:=by rw [htr];exact h'
 have hpre:preS tr place=true:=by rw [htr];exact hpre
 obtain ⟨N0,hpn,hcl,hback⟩:=hc.lift;obtain ⟨hfr,M,hG⟩:=hback _ _ _ hcl.drop;have hg:=hG.2.1;have hsz:act.tmps.size=24:=hg.size.trans (by simp;exact hlen);have s3:=hg.slot 3;rw [dp,e3] at s3;have t3:tm act 3=d9 X:=fp (show aw M w .raw (tm act 3) (d9 X) from s3);have s1:=hg.slot 1;rw [dp,e1] at s1;obtain ⟨b1,T1,c1,t1,hb1,hc1,hok1⟩:=ja s1;obtain ⟨y0,y1,rfl⟩:=vg (hc1.trans rfl);have hy0:y0 = .int .i64 p:=kI (hok1 0 _ y0 rfl rfl);subst hy0;have hy1:af M w ba [y1] cs:=hok1 1 _ y1 rfl rfl;have htree:aw M w gI (.agg #[.int .i64 p,y1]) tr:=by rw [htr];exact ⟨[.int .i64 p,y1],rfl,[.int .i64 p],[y1],rfl,rfl,[y1],[],rfl,hy1,rfl⟩
 have s4:=hg.slot 4;rw [dp,e4] at s4;have t4:tm act 4 = .int .i64 place:=fL s4;obtain ⟨x0,x1,x2,v,us,hX,hrc,hul,hown,hreps,hdis⟩:=hG.1 X r xs rfl;have h1o:ap (st.map aR) act w 1 none b1:=⟨by rw [dp,e1];rfl,by rw [t1];rfl⟩
 have h1h:¬ HL.hb (some (X,r,xs):SL) w b1:=fun hB=>(hG.2.2 b1 hB).2.2 1 none h1o
 have hXh:HL.hb (some (X,r,xs):SL) w X:=⟨X,r,xs,rfl,.inl rfl⟩
 have hRh:∀ g,ag v=some g->HL.hb (some (X,r,xs):SL) w g:=fun g hg'=>⟨X,r,xs,rfl,.inr ⟨v,cj hX rfl,hg'⟩⟩
 have lX:X<w.heap.size:=(Array.getElem?_eq_some_iff.1 hX).1;have l1:b1<w.heap.size:=(Array.getElem?_eq_some_iff.1 hb1).1;obtain ⟨S,hS⟩:∃ S:World->Prop,S=fun w'=>w'.heap[X]? = some (.cells #[x0,x1,x2,v] 118 (0,0))/\w'.heap[b1]? = some (.cells #[.int .i64 p,y1] T1 (0,0)):=⟨_,rfl⟩
 have Sb:∀ w',Below w.heap.size w w'->S w':=fun w' hb=>by rw [hS];exact ⟨(hb.block X lX).trans hX,(hb.block b1 l1).trans hb1⟩
 have bd:Below w.heap.size w w.drew:=(Below.refl _ _).drew;have S0:S w.drew:=Sb _ bd;have nQ:∀ c a w,¬ jK Q (.panic c) a w:=fun c a w h=>h
 have ns:Region.noSelect lO=true:=by kernel_rfl
 refine yQ mixed S 9 ?_;rw [show lO.size=10 by kernel_rfl];show dI Tryz.prog lO (jK Q) S 9 10 ((Array.replicate 10 false)) act w.drew;refine dy (i:=0) (d:=13) (v:=.pointer (some ⟨X,3,none⟩)) (by rw [iz];rfl) ns (by kernel_rfl) (by kernel_rfl) (by kernel_rfl) nQ (fun o ho w' hw'=>?_) S0 ?_
 . have e:act.eval (.tmp 3) = .pointer (some ⟨X,0,none⟩):=t3;simp only [execOp,ho,e];simp [go_sem]
 refine dy (i:=1) (d:=14) (v:=v) (by rw [iz];rfl) ns (by kernel_rfl) (by kernel_rfl) (by kernel_rfl) nQ (fun o ho w' hw'=>?_) S0 ?_
 . rw [hS] at hw';exact jd (T:=116) (t:=.list mw) (by kernel_rfl) rfl rfl ho (b:=X) (j:=3) (by rw [ay (by omega)]) hw'.1 rfl
 refine dy (i:=2) (d:=15) (v:=.agg #[.int .i64 p,y1]) (by rw [iz];rfl) ns (by kernel_rfl) (by kernel_rfl) (by kernel_rfl) nQ (fun o ho w' hw'=>?_) S0 ?_
 . rw [hS] at hw';have:=gr (P:=Tryz.prog) (n:=9) (T:=24) (t:=gI) (w:=w') (b:=b1) (off:=0) (us':=[]) (c1:=[.int .i64 p,y1]) (by kernel_rfl) hw'.2 rfl rfl;have e:((act.put (some 13) (.pointer (some ⟨X,3,none⟩))).put (some 14) v).eval (.tmp 1) = .pointer (some ⟨b1,0,none⟩):=by show tm _ 1=_;rw [aj (by omega),aj (by omega)];exact t1
   simp [execOp,ho,e,Instr.loadAt,Instr.sureAddr,this,aP,Ty.agg]
 refine dy (i:=3) (d:=16) (v:=.int .i64 place) (by rw [iz];rfl) ns (by kernel_rfl) (by kernel_rfl) (by kernel_rfl) nQ (fun o ho w' hw'=>?_) S0 ?_
 . rw [fQ ho,aj (by omega),aj (by omega),aj (by omega),t4]
 obtain ⟨a4,ha4⟩:∃ a4,a4=(((act.put (some 13) (.pointer (some ⟨X,3,none⟩))).put (some 14) v).put (some 15) (.agg #[.int .i64 p,y1])).put (some 16) (.int .i64 place):=⟨_,rfl⟩
 rw [<- ha4];have z4:a4.tmps.size=24:=by rw [ha4];simp only [aG];exact hsz
 have hIw:Inv.I Tryz.prog w.drew:=hI w.drew (hfr.trans (Fr.below bd hg.room));have hstd:aL M w M w.drew:=fun b o u hcb hm=>⟨hcb,hm⟩
 have hvs:bN M w.drew oI #[.agg #[.int .i64 p,y1],.int .i64 place].toList (tr,(place,())):=⟨_,_,rfl,htree.mono hstd,_,_,rfl,⟨_,rfl,rfl⟩,rfl⟩
 have hpS:=nH.1 hpre;have hpair:=Hi Ea (x:=(tr,(place,()))) (yz hpS.tree) (r:=aq tr place) (fun b=>by
  unfold f64;rw [if_pos ⟨rfl,⟨hpS.st.rd,hpS.st.par,hpS.st.pos,hpS.st.few⟩⟩];show Out.ret (cI (b,aJ tr,place) []) = .ret (aq tr place);unfold aq cI nY;rw [zY]) hIw hvs hg.lt
 have hr4:∀ o:Oper,o.op = .call { callee:=.value (.func 71),args := #[.tmp 15,.tmp 16],argTypes := #[24,3] }->(execOp a4.eval o).run Tryz.prog w.drew = .ok (.enter 71 #[.agg #[.int .i64 p,y1],.int .i64 place]) w.drew:=fun o ho=>by
  have e0:a4.eval (.tmp 15) = .agg #[.int .i64 p,y1]:=by show tm a4 15=_;rw [ha4,aj (by omega),ay (by simp only [aG];omega)]
  have e1:a4.eval (.tmp 16) = .int .i64 place:=by show tm a4 16=_;rw [ha4,ay (by simp only [aG];omega)]
  have e3:=fun args=>dK (P:=Tryz.prog) (g:=71) (by kernel_rfl) args w.drew
  have e4:a4.eval (.func 71) = .func (.func 71) #[] #[]:=rfl;simp [execOp,ho,resolve,e0,e1,e4,Deferred.ofValue,invoke,e3]
 refine FN (i:=4) (dst:=some 17) (by rw [iz];rfl) (by kernel_rfl) hr4 (hpair.mono ?_);rintro e wa ⟨v17,rfl,hba,hc64⟩;refine ⟨v17,rfl,fun _=>Sb wa (bd.trans hba),?_⟩;obtain ⟨a5,ha5⟩:∃ a5,a5=a4.put (some 17) v17:=⟨_,rfl⟩
 rw [<- ha5];have z5:a5.tmps.size=24:=by rw [ha5];simp only [aG];exact z4
 have hr5:∀ o:Oper,o.op = .call { callee:=.value (.func 83),args := #[.tmp 17],argTypes := #[102] }->(execOp a5.eval o).run Tryz.prog wa = .ok (.enter 83 #[v17]) wa:=fun o ho=>by
  have e0:a5.eval (.tmp 17)=v17:=by show tm a5 17=_;rw [ha5,ay (by first|omega|(simp only [aG];omega))]
  have e3:=fun args=>dK (P:=Tryz.prog) (g:=83) (by kernel_rfl) args wa
  have e4:a5.eval (.func 83) = .func (.func 83) #[] #[]:=rfl;simp [execOp,ho,resolve,e0,e4,Deferred.ofValue,invoke,e3]
 refine FN (i:=5) (dst:=some 18) (by rw [iz];rfl) (by kernel_rfl) hr5 (hc64.mono ?_);rintro e wb ⟨v18,rfl,hbb,M2,hM2,hM2',hs18,_⟩;have hbb:Below w.heap.size w wb:=bd.trans hbb;refine ⟨v18,rfl,fun _=>Sb wb hbb,?_⟩;obtain ⟨⟨ad,ln,cp,hv18⟩,hrep18⟩:=UV (e:=.list (.int .i64)) (show aw M2 wb mw v18 (aq tr place) from hs18);have hc18:v18.cells = #[v18]:=by rw [hv18];rfl
 refine iu (i:=6) (dst:=some 19) (v:=.slice (some ⟨wb.heap.size,0,none⟩) 1 1) (by rw [iz];rfl) (by kernel_rfl) (fun o ho=>Ph ho (u:=v18) (ay (by omega)) hc18 ⟨ad,ln,cp,hv18⟩) (.inl rfl) (fun _=>Sb _ (hbb.alloc hbb.size _)) ?_;obtain ⟨wc,hwc⟩:∃ wc,wc=wb.alloc (.cells #[v18] 37):=⟨_,rfl⟩
 rw [<- hwc];have hbc:Below w.heap.size w wc:=by rw [hwc];exact hbb.alloc hbb.size _
 have hszc:wc.heap.size=wb.heap.size+1:=by rw [hwc];simp
 have holdc:∀ k,k<wb.heap.size->wc.heap[k]? = wb.heap[k]? := fun k hk=>by rw [hwc];exact heap_alloc_old wb _ hk
 have hownc:wc.ownsRow 0 37 1 v us.length us:=gV hown fun g hg'=>hbc.block g (HL.lt _ M w g hG.1 (hRh g hg'))
 have hcc:wc.cell? ⟨wb.heap.size,0,none⟩=some v18:=cj (by rw [hwc];exact heap_alloc_new wb _) rfl;obtain ⟨o7,i7,d7,p7,q7⟩:=aB (ops:=lO) rfl (i:=7) (x:=(some 20,.call { callee:=.builtin .append,args := #[.tmp 14,.tmp 19],argTypes := #[116,116] },none)) (by rw [iz];rfl);simp only at d7 p7 q7;obtain ⟨a7,ha7⟩:∃ a7,a7=(a5.put (some 18) v18).put (some 19) (.slice (some ⟨wb.heap.size,0,none⟩) 1 1):=⟨_,rfl⟩
 rw [<- ha7];have z7:a7.tmps.size=24:=by rw [ha7];simp only [aG];exact z5
 have lb:=hbb.size;obtain ⟨v2,wd,hrd,hownd,hgrd,hblk⟩:=O' (a:=a7) (w:=wc) p7 (v:=v) (us:=us) (x:=v18) (b:=wb.heap.size)
  (by rw [ha7,aj (by omega),aj (by omega),ha5,aj (by omega),ha4,aj (by omega),aj (by omega),ay (by simp only [aG];omega)]) (by rw [ha7,ay (by simp only [aG];omega)]) hownc hcc (by rw [hv18];rfl) (by omega)
 have hXne:ag v≠some X:=fun e=>hdis X e rfl
 have h1ne:ag v≠some b1:=fun e=>h1h (hRh b1 e)
 have hXd:wd.heap[X]? = some (.cells #[x0,x1,x2,v] 118 (0,0)):=by rw [hgrd.block X (by omega) (fun e=>hXne e.symm),hbc.block X lX];exact hX
 have h1d:wd.heap[b1]? = some (.cells #[.int .i64 p,y1] T1 (0,0)):=by rw [hgrd.block b1 (by omega) (fun e=>h1ne e.symm),hbc.block b1 l1];exact hb1
 have Sd:S wd:=by rw [hS];exact ⟨hXd,h1d⟩
 refine FP (i:=7) (v:=v2) (w':=wd) i7 d7 q7 (by kernel_rfl) hrd (.inl rfl) (fun _=>Sd) ?_;have hr8:∀ (o:Oper),o.op = .fieldAddr 118 (.tmp 3) 1->∀ w',(execOp (a7.put (some 20) v2).eval o).run Tryz.prog w' = .ok (.value (.pointer (some ⟨X,3,none⟩))) w':=fun o ho w'=>by
  have e:(a7.put (some 20) v2).eval (.tmp 3) = .pointer (some ⟨X,0,none⟩):=by
   show tm _ 3=_;rw [aj (by omega),ha7,aj (by omega),aj (by omega),ha5,aj (by omega),ha4,aj (by omega),aj (by omega),aj (by omega),aj (by omega)];exact t3
  simp only [execOp,ho,e];simp [go_sem]
 refine iu (i:=8) (dst:=some 21) (v:=.pointer (some ⟨X,3,none⟩)) (by rw [iz];rfl) (by kernel_rfl) (fun o ho=>hr8 o ho wd) (.inl rfl) (fun _=>Sd) ?_;obtain ⟨hov1,hov2⟩:=Uj hownd;refine iu (i:=9) (dst:=none) (v:=undef) (by rw [iz];rfl) (by kernel_rfl) (fun o ho=>tn (T:=116) (t:=.list mw) (by kernel_rfl) rfl ho (b:=X) (j:=3) (u:=v2) (ay (by simp only [aG];omega)) (by rw [aj (by omega),ay (by omega)]) hov1 hov2 hXd (by show 3<4;omega)) (.inr ⟨rfl,rfl⟩) (fun h=>absurd rfl h) ?_;refine tK (by kernel_rfl) ?_ _;rw [gW];obtain ⟨we,hwe⟩:∃ we,we=wd.setRow X (#[x0,x1,x2,v].setIfInBounds 3 v2):=⟨_,rfl⟩
 rw [<- hwe];have hsze:we.heap.size=wd.heap.size:=by rw [hwe];exact setRow_size
 have hXe:we.heap[X]? = some (.cells #[x0,x1,x2,v2] 118 (0,0)):=by rw [hwe];exact lU hXd
 have hothe:∀ k,k≠X->we.heap[k]? = wd.heap[k]? := fun k hk=>by rw [hwe];exact setRow_other hk
 have hout:∀ k,k<wb.heap.size->¬ HL.hb (some (X,r,xs):SL) w k->we.heap[k]? = wb.heap[k]? := fun k hk hB=>by
  rw [hothe k fun e=>hB (e ▸ hXh),hgrd.block k (by omega) (fun e=>hB (hRh k e.symm)),holdc k hk]
 have hv2ne:∀ g,ag v2=some g->g≠X:=fun g hg'=>by
  rcases hblk with h|h
  . exact hdis g (h ▸ hg')
  . rw [h] at hg';cases hg';omega
 have hgsz:=hgrd.size;obtain ⟨M',hM'⟩:∃ M':ai,M'=fun b o=>M2 b o\/(wb.heap.size<=b/\b<we.heap.size):=⟨_,rfl⟩
 have hhM:∀ b o,HL.hb (some (X,r,xs):SL) w b->M2 b o:=fun b o hB=>hM2 b o ((hG.2.2 b hB).2.1 o)
 have hst2:aL M2 wb M' we:=fun b o u hcb hm=>by
  have hnb:¬ HL.hb (some (X,r,xs):SL) w b:=fun hB=>hm (hhM b o hB)
  refine ⟨(World.cell?_of_block (a:=⟨b,o,none⟩) (hout b (c_ hcb) hnb)).trans hcb,fun h=>?_⟩;rw [hM'] at h;rcases h with h|⟨h,_⟩
  . exact hm h
  . have:=c_ hcb;omega
 have hst1:aL M w M2 wb:=fun b o u hcb hm=>by
  refine ⟨(World.cell?_of_block (a:=⟨b,o,none⟩) (hbb.block b (c_ hcb))).trans hcb,fun h=>?_⟩;rcases hM2' b o h with h|⟨h,_⟩
  . exact hm h
  . have:=c_ hcb;have h:w.heap.size<=b:=h;omega
 have hst:aL M w M' we:=fun b o u hcb hm=>by
  obtain ⟨e1,e2⟩:=hst1 b o u hcb hm;exact hst2 b o u e1 e2
 have hce:we.cell? ⟨X,3,none⟩=some v2:=cj hXe rfl;have hI':HL.I (some (X,r,xs++[aq tr place]):SL) M' we:=by
  intro X' r' xs' e;cases e;refine ⟨x0,x1,x2,v2,us++[v18],hXe,af.mono hst _ _ _ hrc,by simp [hul],gV hownd fun g hg'=>hothe g (hv2ne g hg'),fun j u l hu hl=>?_,hv2ne⟩;rcases Nat.lt_or_ge j us.length with hj|hj
  . rw [List.getElem?_append_left hj] at hu;rw [List.getElem?_append_left (by omega)] at hl;exact af.mono hst _ _ _ (hreps j u l hu hl)
  . rw [List.getElem?_append_right hj] at hu;rw [List.getElem?_append_right (by omega)] at hl;have:j - us.length=0:=by
     rcases Nat.eq_zero_or_pos (j - us.length) with h|h
     . exact h
     . rw [List.getElem?_eq_none (by simp;omega)] at hu;cases hu
    rw [this] at hu;rw [<- hul,this] at hl;cases hu;cases hl;exact af.mono hst2 _ _ _ hrep18
 have hfr3:Fr (fun k=>k<w.heap.size/\¬ HL.hb (some (X,r,xs):SL) w k) w we:=by
  refine ⟨?_,?_,?_,?_,fun k hk=>(hout k (by omega) hk.2).trans (hbb.block k hk.1)⟩
  . rw [hwe];show wd.os=w.os;rw [hgrd.os,hbc.os]
  . rw [hwe];show wd.tape=w.tape;rw [hgrd.tape,hbc.tape]
  . rw [hwe];show wd.output=w.output;rw [hgrd.output,hbc.output]
  . rw [hsze];omega
 have hbs:∀ b,HL.hb (some (X,r,xs++[aq tr place]):SL) we b->HL.hb (some (X,r,xs):SL) w b\/wb.heap.size<=b:=by
  rintro b ⟨X',r',xs',e,hb|⟨u,hu,hub⟩⟩
  . cases e;exact .inl (hb ▸ hXh)
  . cases e;rw [hce] at hu;cases hu;rcases hblk with h|h
    . exact .inl (hRh b (h ▸ hub))
    . rw [h] at hub;cases hub;exact .inr (by omega)
 obtain ⟨f1,f2⟩:=hG.grow (s':=(some (X,r,xs++[aq tr place]):SL)) (M':=M') (w':=we) hfr3 hI' (fun b o h=>by rw [hM'];exact .inr (.inl (hM2 b o h))) (fun b o h=>by
  rw [hM'] at h;rcases h with h|h
  . rcases hM2' b o h with h|⟨h,h2⟩
    . exact .inl h
    . have h:w.heap.size<=b:=h;exact .inr ⟨h,by omega⟩
  . exact .inr ⟨by omega,h.2⟩) (fun b hb=>(hbs b hb).imp id fun h=>by omega) fun b hb o=>by
  rw [hM'];rcases hbs b hb with h|h
  . exact .inl (hhM b o h)
  . exact .inr ⟨h,HL.lt _ _ _ b hI' hb⟩
 have hall:=gc f2 [(13,.pointer (some ⟨X,3,none⟩)),(14,v),(15,.agg #[.int .i64 p,y1]),(16,.int .i64 place),(17,v17),(18,v18),(19,.slice (some ⟨wb.heap.size,0,none⟩) 1 1),(20,v2),(21,.pointer (some ⟨X,3,none⟩))] _ act f2 (uh hnb);rw [ha7,ha5,ha4];exact hQ .normal _ _ _ _ ⟨hfr.trans f1,M',hall⟩ h'
def uT:List Spec:=[fw]
def lc:List (Nat×List Nat):=[(3,[1,2,3,9,10])]
def uX (s:SL):List Spec:=[fw]
def AB:Array Oper:=bp 1 (av Tryz.f85)
def vV:Nat->Option (Nat×(SL->St->Bool×Outs HL)):=fun i=>match i with|2=>some (2,rJ 24 6 3 7)|_=>none
theorem KA:∀ i y,vV i=some y->bw Tryz.prog HL AB i y.1 y.2:=by
 intro i y h
 unfold vV at h
 split at h
 . cases h;exact Wf (i:=2) (by decide) (by decide) (by decide) (by decide) (by kernel_rfl) (by kernel_rfl) (by kernel_rfl)
 . cases h
def AC:Array Oper:=bp 7 (av Tryz.f85)
def vW:Nat->Option (Nat×(SL->St->Bool×Outs HL)):=fun i=>match i with|0=>some (0,rK 24 3 23)|_=>none
theorem KB:∀ i y,vW i=some y->bw Tryz.prog HL AC i y.1 y.2:=by
 intro i y h
 unfold vW at h
 split at h
 . cases h;exact (We (i:=0) (by kernel_rfl)).one
 . cases h
def xy:List (List Nat×HdH HL):=[([1,0],⟨fun {ρ} k s st=>cf Tryz.prog HL (fun s=>ah (uX s)) lc vV 1 AB k s st⟩),
 ([1,1,0,1,0,0,1,1,0,0,1],⟨fun {ρ} k s st=>rW k s st⟩),
 ([1,1,1,0],⟨fun {ρ} k s st=>cf Tryz.prog HL (fun s=>ah (uX s)) lc vW 7 AC k s st⟩)]
theorem Lq (h:∀ s,∀ sp∈uX s,cT Tryz.prog HL s sp):bG Tryz.prog HL (av Tryz.f85) (xy):=(bJ (c' := .region 1 AB false) (by kernel_rfl) (cr (fun s g sp hs=>h s sp (List.mem_filter.1 hs).1) lc KA) (bJ (c' := .region 5 lO true) (by kernel_rfl) KK (bJ (c' := .region 7 AC false) (by kernel_rfl) (cr (fun s g sp hs=>h s sp (List.mem_filter.1 hs).1) lc KB) dU)))
def L70_0 (N:Nat) (n_L70_0:Nat) (v_3:Value) (x:aS) (r_1:cG) (t_4:Int) (t_5:(List (Int×aE))) (t2_6:Int) (t2_7:(List (Int×aE))) (t2_8:(List (List Int))) (t2_9:(List (List (List Int)))) (t10_10:Int) (xss_11:(List (List (List Int)))):Out (SL×jZ) :=
 ev Tryz.prog HL (ah uT) lc N (xy) Tryz.f85 false false Cg [1,1,0,1,0] n_L70_0 ((some (((kf v_3)),r_1,xss_11):SL)) [U,.box [.d (.int .i64) t_4,.d ba t_5],.box [.d (.int .i64) t2_6,.own mf t2_7 false,.own (.list (.int .i64)) t2_8 false,.own be t2_9 false],.d .raw ((d9 (kf v_3))),U,U,U,U,U,.d (.int .i64) x.1.1,.d (.int .i64) t10_10,U,U,U,U,U,U,U,U,U,U,U,U,U]
theorem L70_0_succ (N:Nat) (n_L70_0:Nat) (v_3:Value) (x:aS) (r_1:cG) (t_4:Int) (t_5:(List (Int×aE))) (t2_6:Int) (t2_7:(List (Int×aE))) (t2_8:(List (List Int))) (t2_9:(List (List (List Int)))) (t10_10:Int) (xss_11:(List (List (List Int)))):L70_0 N  (n_L70_0+1) v_3 x r_1 t_4 t_5 t2_6 t2_7 t2_8 t2_9 t10_10 xss_11 =
 (match (decide (t10_10<x.1.1)) with|true=>bif (ou xss_11.length ((t_4,(t_5,()))) t10_10 ((d9 (kf v_3))) (d9 ((kf v_3)))) then L70_0 N n_L70_0 v_3 x r_1 t_4 t_5 t2_6 t2_7 t2_8 t2_9 (IntKind.i64.wrap (t10_10+1)) ((xss_11++[aq ((t_4,(t_5,()))) t10_10])) else .fail|false=>bif (cK ((d9 (kf v_3))) (d9 ((kf v_3)))) then .ret (((none:SL)),(r_1,(xss_11,()))) else .fail:Out (SL×jZ)):=by kernel_rfl
def wS (N:Nat) (x:aS):Out (SL×jZ):=match f58 (x.1,()) with | .ret r_1=>(eD fun (v_3:Value)=>L70_0 N N v_3 x r_1 x.1.1 x.1.2.1 0 ([]:List (Int×aE)) [] ([]:List (List (List Int))) 0 (([]:List LL))) | .pan p_2=>.fail | .fail=>.fail
theorem Ot (N:Nat) (x:aS):cD Tryz.prog HL (ah uT) lc N (xy) Tryz.f85 false false cB Cg ((none:SL)) x=wS N x:=by kernel_rfl
def pN (x:aS):Out jZ:=dY (wS fuel x)
def rn:Spec:=⟨85,.call,cB,Cg,false,false,pN⟩
theorem sS:am Tryz.prog rn:=jM (H:=HL) (none:SL) Dn (fun M w=>Dm M w) (l:=uT) (fun sp hs=>(by simp only [uT,List.mem_cons,List.not_mem_nil,or_false] at hs;rcases hs with rfl<;>first|exact fO)) Tryz.func85 rfl (Lq fun s sp hs=>.inl (by simp only [uX,List.mem_cons,List.not_mem_nil,or_false] at hs;rcases hs with rfl<;>first|exact fO)) lc fuel (Ot fuel)
end Go.V
end
