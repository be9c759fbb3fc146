/- Part. -/
import Derived.Test.YtmkbnifehdhbbabGreatDoorDE
set_option linter.all false
noncomputable section
namespace Go.V
open Go.Proofs
open Go.RowKit (Below)
def bO (v:Value):Value:=.func (.func 86) #[v] #[]
def bV (v:Value):Value:=.func (.func 87) #[v] #[]
def HC:Hole where
 σ:=Option (Value×bU)
 hb _ _ _:=False
 I s M w:=match s with|none=>True|some p=>aw M w gH p.1 p.2
 keep s M w M' w' h1 h2 h3:=by
  cases s with
  | none=>trivial
  | some p=>exact aw.mono h2 h1
 same s M w w' h1 h2 b h3:=h3
 lt s M w b h1 h2:=h2.elim
 nd s M w b c h1 h2:=h2.elim
theorem KS (w:World) (b:Nat):¬ HC.hb (none:Option (Value×bU)) w b:=fun h=>h
theorem Dk (M:ai) (w:World):HC.I (none:Option (Value×bU)) M w:=trivial
theorem Dl {F:Nat->Prop} {M0:Base} {s s':HC.σ} {M:ai} {st:St} {a:Act} {w:World} (h:bv HC F M0 s M st a w) (hI:HC.I s' M w):bv HC F M0 s' M st a w:=⟨hI,h.2.1,fun b hb=>hb.elim⟩
def fB (tv:Value) (x:bU) (v:Value) (fr:Int):Out Bool:=open Classical in if v=bO tv then f71 (x,(fr,())) else if v=bV tv then f72 (x,(fr,())) else .fail
def qJ (o:Out Bool):Bool:=match o with | .ret _=>true|_=>false
def mn (o:Out Bool):Bool:=match o with | .ret b=>b|_=>false
def mG (s:HC.σ) (st:St):Bool×Outs HC :=
 match (show Option (Value×bU) from s) with
 | some p=>(match get st 32 with
  | .d .raw v=>(match (get st 33).as (.int .i64) with
   | some fr=>((st.length==44 && bL [34] st) && qJ (fB p.1 p.2 (show Value from v) (show Int from fr)),.some [(s,st.set 34 (.d .bool (mn (fB p.1 p.2 (show Value from v) (show Int from fr)))))])
   | none=>(false,.some []))
  | _=>(false,.some []))
 | none=>(false,.some [])
def nJ:Array Oper:=bp 13 (av Tryz.f48)
theorem MQ:dC Tryz.prog HC nJ 2 mG:=by
 intro F M0 w0 n hI hpl Q K s st act w hc h1 hK;obtain ⟨o0,i0,d0,p0,q0⟩:=aB (ops:=nJ) rfl (i:=2) (x:=(some 34,.call { callee:=.value (.tmp 32),args := #[.tmp 33],argTypes := #[3] },none)) (by kernel_rfl);simp only at d0 p0 q0;obtain ⟨s',hs'⟩:∃ z:Option (Value×bU),z=s:=⟨_,rfl⟩
 cases s' with
 | none=>subst hs';exact absurd (show false=true from h1) (by simp)
 | some p =>
 subst hs';have h1:(mG (some p:Option (Value×bU)) st).1=true:=h1;unfold mG at h1;dsimp only at h1;split at h1;rotate_left
 . cases h1
 rename_i vD e1;obtain ⟨v,hvD⟩:∃ z:Value,z=vD:=⟨_,rfl⟩
 subst hvD;split at h1;rotate_left
 . cases h1
 rename_i frD e2;obtain ⟨fr,hfr'⟩:∃ z:Int,z=frD:=⟨_,rfl⟩
 subst hfr';simp only [Bool.and_eq_true,beq_iff_eq] at h1;obtain ⟨⟨hlen,hnb⟩,hok⟩:=h1;obtain ⟨hfr,M,hG⟩:=id hc;have hg:=hG.2.1;have hrep:aw M w gH p.1 p.2:=hG.1;have tp:tm act 32=v:=by
  have:=hg.slot 32;rw [e1] at this;exact fp (show aw M w .raw (tm act 32) v from this)
 have hrb:aw M w (.int .i64) (tm act 33) fr:=cO (hg.slot 33) e2;have tf:tm act 33 = .int .i64 fr:=by obtain ⟨cs,e1,e2⟩:=hrb;have e2:cs=[.int .i64 fr]:=e2;rw [e1,e2];rfl
 have hnb':au (get st 34)=false:=by
  have:=List.all_eq_true.1 hnb 34 (by simp)
  simpa using this
 have hmem:(mG (some p:Option (Value×bU)) st).2.mem ((some p:Option (Value×bU)),st.set 34 (.d .bool (mn (fB p.1 p.2 v fr)))):=by
  unfold mG;dsimp only;rw [e1];dsimp only;rw [e2];exact .head _
 have hIw:Inv.I Tryz.prog w:=hI w hfr;have hvs:bN M w (.prod gH (.prod (.int .i64) .unit)) (#[p.1,.int .i64 fr]:Array Value).toList (p.2,(fr,())):=⟨_,_,rfl,hrep,_,_,rfl,⟨_,rfl,rfl⟩,rfl⟩
 have go:∀ (g:Nat) (r:Bool),fG Tryz.prog g=true->v = .func (.func g) #[p.1] #[]->mn (fB p.1 p.2 v fr)=r->Calls Tryz.prog g #[p.1,.int .i64 fr] w (fun e w'=>∃ u,e = .returned u/\Below w.heap.size w w'/\eA M w w' false false .bool u r) ->
  wpOpIn (aA none) n Tryz.prog nJ Q 2 K act w:=by
  intro g r hent hv hr hcl;have hr0:(execOp act.eval o0).run Tryz.prog w = .ok (.enter g #[p.1,.int .i64 fr]) w:=by
   have k1:act.eval (.tmp 32) = .func (.func g) #[p.1] #[]:=tp.trans hv;have k2:act.eval (.tmp 33) = .int .i64 fr:=tf;have k3:=fun args=>dK (P:=Tryz.prog) (g:=g) hent args w
   simp [execOp,p0,resolve,k1,k2,Deferred.ofValue,invoke,k3]
  refine gz i0 (aC q0) (fun c h=>by rw [p0] at h;cases h) hr0 (hcl.mono ?_);rintro e w' ⟨u,rfl,hbel,hres⟩;refine ⟨u,rfl,?_⟩;obtain ⟨f1,M',g2⟩:=bv.res (o:=o0) (s':=(some p:Option (Value×bU))) hG (by unfold dj;rw [d0];exact hnb') (w':=w') ⟨hbel.os,hbel.tape,hbel.output,hbel.size,fun k hk=>hbel.block k hk.1⟩ (fun w1 h1 h2 _=>⟨aw.mono (fun b o u hc1 hm=>⟨(World.cell?_of_block (a:=⟨b,o,none⟩) (h2.block b ⟨c_ hc1,fun h=>h⟩)).trans hc1,hm⟩) hrep,fun b hb=>hb⟩) hres;rw [d0] at g2 ⊢;rw [hr] at hmem;exact hK _ hmem _ _ ⟨hfr.trans f1,M',g2⟩
 unfold fB at hok;split at hok
 . rename_i hv;have hv:v=bO p.1:=hv;have hc71:=MD (p.2,(fr,())) M w _ hIw hvs hg.lt;have hsp:IE.f (p.2,(fr,()))=f71 (p.2,(fr,())):=rfl;rw [hsp] at hc71;cases hx:f71 (p.2,(fr,())) with
   | ret r =>
    rw [hx] at hc71;refine go 86 r (by kernel_rfl) hv ?_ hc71;unfold fB;rw [if_pos hv,hx];rfl
   | pan q=>rw [hx] at hok;cases hok
   | fail=>rw [hx] at hok;cases hok
 . rename_i hv1;split at hok
   . rename_i hv;have hv:v=bV p.1:=hv;have hc72:=ME (p.2,(fr,())) M w _ hIw hvs hg.lt;have hsp:IF.f (p.2,(fr,()))=f72 (p.2,(fr,())):=rfl;rw [hsp] at hc72;cases hx:f72 (p.2,(fr,())) with
     | ret r =>
      rw [hx] at hc72;refine go 87 r (by kernel_rfl) hv ?_ hc72;unfold fB;rw [if_neg hv1,if_pos hv,hx];rfl
     | pan q=>rw [hx] at hok;cases hok
     | fail=>rw [hx] at hok;cases hok
   . cases hok
theorem Rf {cells:Array Value} (h:cells.size=4):∃ c0 c1 c2 c3,cells = #[c0,c1,c2,c3]:=by
 obtain ⟨l⟩:=cells
 match l,h with
 | [a,b,c,d],_=>exact ⟨a,b,c,d,rfl⟩
theorem UD {M0:Base} {F:Nat->Prop} {M:ai} {st:St} {a:Act} {w:World} {o:Oper} (h:Good M0 F M st a w) (hnb:aN st o) {t0 t1:Ty} {x0:t0.den} {x1:t1.den} {u0 u1:Value} {E:TypeId} (h0:af M w t0 [u0] x0) (h1:af M w t1 [u1] x1) :
 ∃ M',Good M0 F M' (app (o.dst.toList.map (·,S.box [.d t0 x0,.d t1 x1])) st) (a.put o.dst (.pointer (some ⟨w.heap.size,0,none⟩))) (w.alloc (.cells #[u0,u1] E)):=by
 refine h.put_box hnb (fun k t xs hh e=>?_) (fun k t xs e=>?_) (fun k t xs hh v e _=>?_) rfl (fun k c u e1 e2=>?_)
 . match k,e with
   | 0,e=>cases e
   | 1,e=>cases e
   | _+2,e=>cases e
 . match k,e with
   | 0,e=>cases e
   | 1,e=>cases e
   | _+2,e=>cases e
 . match k,e with
   | 0,e=>cases e
   | 1,e=>cases e
   | _+2,e=>cases e
 . match k,e1,e2 with
   | 0,e1,e2=>cases e1;cases e2;exact h0
   | 1,e1,e2=>cases e1;cases e2;exact h1
   | _+2,e1,_=>cases e1
def oQ (s:HC.σ) (st:St):Bool×Outs HC :=
 match get st 4 with
 | .box [.d (.int .i64) p,.d (.list (.prod (.int .i64) (.prod (.list (.int .i64)) .unit))) cs,.d (.list (.list (.int .i64))) ms,.d (.list (.list (.list (.int .i64)))) ps] =>
  ((st.length==44 && bL [5,16,17,18,19,20] st),.each fun v=>((some (v,(((p,(cs,())),(ms,())),(ps,()))):Option (Value×bU)),(bE [16,17,18,19,20] st).set 5 (.box [.d .raw (bO v),.d .raw (bV v)])))
 | _=>(false,.some [])
def nK:Array Oper:=bp 4 (av Tryz.f48)
theorem lh:nK.toList.map a_=[(some 16,.load 118 (.tmp 4),none),(some 17,.makeFunc (.func 86) #[.tmp 16] #[],none),(some 18,.load 118 (.tmp 4),none),(some 19,.makeFunc (.func 87) #[.tmp 18] #[],none),(some 20,.build 120 #[(0,.tmp 17),(1,.tmp 19)],none),(some 5,.alloc 120,none),(none,.store 120 (.tmp 5) (.tmp 20),none)]:=by kernel_rfl
theorem Pz {a:Act} {w:World} {o:Oper} (ho:o.op = .alloc 120):(execOp a.eval o).run Tryz.prog w = .ok (.value (.pointer (some ⟨w.heap.size,0,none⟩))) (w.alloc (.cells #[.nilFunc,.nilFunc] 120)):=by
 simp only [execOp,ho];simp [go_sem]
theorem EN {a:Act} {w:World} {o:Oper} {g p:Nat} {v:Value} (ho:o.op = .makeFunc (.func g) #[.tmp p] #[]) (h:tm a p=v):(execOp a.eval o).run Tryz.prog w = .ok (.value (.func (.func g) #[v] #[])) w:=by
 have e1:a.eval (.tmp p)=v:=h;simp [execOp,ho,Instr.makeFunc,e1]
theorem Pa {a:Act} {w:World} {o:Oper} {p q:Nat} {v:Value} (ho:o.op = .build 120 #[(0,.tmp p),(1,.tmp q)]) (h1:tm a p=bO v) (h2:tm a q=bV v):(execOp a.eval o).run Tryz.prog w = .ok (.value (.agg #[bO v,bV v])) w:=by
 have e1:a.eval (.tmp p) = .func (.func 86) #[v] #[]:=h1;have e2:a.eval (.tmp q) = .func (.func 87) #[v] #[]:=h2;simp only [execOp,ho,List.map_toArray,List.map_cons,List.map_nil,e1,e2];simp [go_sem,bO,bV]
theorem LD:bw Tryz.prog HC nK 0 6 oQ:=by
 intro F M0 w0 n hI hpl Q rest s st act w hc h1 hK;unfold oQ at h1;split at h1;rotate_left
 . cases h1
 rename_i pD cs ms ps e4;obtain ⟨p,hp'⟩:∃ z:Int,z=pD:=⟨_,rfl⟩
 subst hp';simp only [Bool.and_eq_true,beq_iff_eq] at h1;obtain ⟨hlen,hnb⟩:=h1;obtain ⟨hfr,M,hG⟩:=id hc;have hg:=hG.2.1;have hsz:act.tmps.size=44:=hg.size.trans hlen;have nb:∀ d∈[5,16,17,18,19,20],au (get st d)=false:=fun d hd=>by
  have:=List.all_eq_true.1 hnb d hd
  simpa using this
 have s4:=hg.slot 4;rw [e4] at s4;obtain ⟨b4,T4,c4,t4,hb4,hc4,hok4⟩:=ja s4;obtain ⟨y0,y1,y2,y3,rfl⟩:=Rf (hc4.trans rfl);have hy0:y0 = .int .i64 p:=kI (hok4 0 _ y0 rfl rfl);subst hy0;have hy1:af M w ba [y1] cs:=hok4 1 _ y1 rfl rfl;have hy2:af M w be [y2] ms:=hok4 2 _ y2 rfl rfl;have hy3:af M w ku [y3] ps:=hok4 3 _ y3 rfl rfl;obtain ⟨tv,htv⟩:∃ tv:Value,tv = .agg #[.int .i64 p,y1,y2,y3]:=⟨_,rfl⟩
 have hrep:aw M w gH tv (((p,(cs,())),(ms,())),(ps,())):=by
  rw [htv];exact ⟨[.int .i64 p,y1,y2,y3],rfl,[.int .i64 p,y1,y2],[y3],rfl,⟨[.int .i64 p,y1],[y2],rfl,⟨[.int .i64 p],[y1],rfl,rfl,⟨[y1],[],rfl,hy1,rfl⟩⟩,⟨[y2],[],rfl,hy2,rfl⟩⟩,⟨[y3],[],rfl,hy3,rfl⟩⟩
 have hload:∀ (o:Oper) (a:Act),o.op = .load 118 (.tmp 4)->tm a 4 = .pointer (some ⟨b4,0,none⟩)->(execOp a.eval o).run Tryz.prog w = .ok (.value tv) w:=fun o a ho ht=>by
  have:=gr (P:=Tryz.prog) (n:=9) (T:=118) (t:=gH) (w:=w) (b:=b4) (off:=0) (us':=[]) (c1:=[.int .i64 p,y1,y2,y3]) (by kernel_rfl) hb4 rfl rfl;have e:a.eval (.tmp 4) = .pointer (some ⟨b4,0,none⟩):=ht;rw [htv];simp [execOp,ho,e,Instr.loadAt,Instr.sureAddr,this,aP,Ty.agg]
 obtain ⟨o0,i0,d0,p0,q0⟩:=aB lh (i:=0) rfl;obtain ⟨o1,i1,d1,p1,q1⟩:=aB lh (i:=1) rfl;obtain ⟨o2,i2,d2,p2,q2⟩:=aB lh (i:=2) rfl;obtain ⟨o3,i3,d3,p3,q3⟩:=aB lh (i:=3) rfl;obtain ⟨o4,i4,d4,p4,q4⟩:=aB lh (i:=4) rfl;obtain ⟨o5,i5,d5,p5,q5⟩:=aB lh (i:=5) rfl;obtain ⟨o6,i6,d6,p6,q6⟩:=aB lh (i:=6) rfl;simp only at d0 p0 q0 d1 p1 q1 d2 p2 q2 d3 p3 q3 d4 p4 q4 d5 p5 q5 d6 p6 q6;show wpOpsIn (aA none) n Tryz.prog nK Q (0 :: 1 :: 2 :: 3 :: 4 :: 5 :: 6 :: rest) act w;rw [wpOpsIn_cons];refine aV i0 (aC q0) (fun c h=>by rw [p0] at h;cases h) (hload o0 act p0 t4) ?_;rw [d0,wpOpsIn_cons];obtain ⟨a0,e0⟩:∃ a0,a0=act.put (some 16) tv:=⟨_,rfl⟩
 have z0:a0.tmps.size=44:=by rw [e0,aG];exact hsz
 have r0:tm a0 16=tv:=by rw [e0];exact ay (by omega)
 have f0:tm a0 4 = .pointer (some ⟨b4,0,none⟩):=by rw [e0,aj (by omega)];exact t4
 rw [<- e0];refine aV (v:=bO tv) (w':=w) i1 (aC q1) (fun c h=>by rw [p1] at h;cases h) (EN (g:=86) (p:=16) p1 r0) ?_;rw [d1,wpOpsIn_cons];obtain ⟨a1,e1⟩:∃ a1,a1=a0.put (some 17) (bO tv):=⟨_,rfl⟩
 have z1:a1.tmps.size=44:=by rw [e1,aG];exact z0
 have r1:tm a1 17=bO tv:=by rw [e1];exact ay (by omega)
 have f1:tm a1 4 = .pointer (some ⟨b4,0,none⟩):=by rw [e1,aj (by omega)];exact f0
 rw [<- e1];refine aV i2 (aC q2) (fun c h=>by rw [p2] at h;cases h) (hload o2 a1 p2 f1) ?_;rw [d2,wpOpsIn_cons];obtain ⟨a2,e2⟩:∃ a2,a2=a1.put (some 18) tv:=⟨_,rfl⟩
 have z2:a2.tmps.size=44:=by rw [e2,aG];exact z1
 have r2:tm a2 18=tv:=by rw [e2];exact ay (by omega)
 have g2:tm a2 17=bO tv:=by rw [e2,aj (by omega)];exact r1
 rw [<- e2];refine aV (v:=bV tv) (w':=w) i3 (aC q3) (fun c h=>by rw [p3] at h;cases h) (EN (g:=87) (p:=18) p3 r2) ?_;rw [d3,wpOpsIn_cons];obtain ⟨a3,e3⟩:∃ a3,a3=a2.put (some 19) (bV tv):=⟨_,rfl⟩
 have z3:a3.tmps.size=44:=by rw [e3,aG];exact z2
 have r3:tm a3 19=bV tv:=by rw [e3];exact ay (by omega)
 have g3:tm a3 17=bO tv:=by rw [e3,aj (by omega)];exact g2
 rw [<- e3];refine aV (v:=.agg #[bO tv,bV tv]) (w':=w) i4 (aC q4) (fun c h=>by rw [p4] at h;cases h) (Pa p4 g3 r3) ?_;rw [d4,wpOpsIn_cons];obtain ⟨a5,e5⟩:∃ a5,a5=a3.put (some 20) (.agg #[bO tv,bV tv]):=⟨_,rfl⟩
 have hsz5:a5.tmps.size=44:=by rw [e5,aG];exact z3
 have r5:tm a5 20 = .agg #[bO tv,bV tv]:=by rw [e5];exact ay (by omega)
 have ha5:a5=((((act.put (some 16) tv).put (some 17) (bO tv)).put (some 18) tv).put (some 19) (bV tv)).put (some 20) (.agg #[bO tv,bV tv]):=by rw [e5,e3,e2,e1,e0]
 rw [<- e5];refine aV i5 (aC q5) (fun c h=>by rw [p5] at h;cases h) (Pz p5) ?_;rw [d5,wpOpsIn_cons];have hrun6:(execOp (a5.put (some 5) (.pointer (some ⟨w.heap.size,0,none⟩))).eval o6).run Tryz.prog (w.alloc (.cells #[.nilFunc,.nilFunc] 120)) = .ok .skip (w.alloc (.cells #[bO tv,bV tv] 120)):=by
  have e1:(a5.put (some 5) (.pointer (some ⟨w.heap.size,0,none⟩))).eval (.tmp 5) = .pointer (some ⟨w.heap.size,0,none⟩):=ay (by omega);have e3:(a5.put (some 5) (.pointer (some ⟨w.heap.size,0,none⟩))).eval (.tmp 20) = .agg #[bO tv,bV tv]:=(aj (by omega)).trans r5;have hrun:=ki (P:=Tryz.prog) (n:=9) (T:=120) (t:=.prod .raw (.prod .raw .unit)) (by kernel_rfl) (o:=0) (v:=.agg #[bO tv,bV tv]) rfl (heap_alloc_new w (.cells #[.nilFunc,.nilFunc] 120)) (by show 0+2<=2;omega) (by intro x hx;simp [Value.cells] at hx;rcases hx with rfl|rfl<;>rfl);simp only [execOp,p6,e1,e3,Instr.storeAt,Instr.sureAddr,Sem.run_bind,Sem.run_pure,Result.andThen_ok];rw [hrun];have:(w.alloc (.cells #[.nilFunc,.nilFunc] 120)).setRow w.heap.size #[bO tv,bV tv]=w.alloc (.cells #[bO tv,bV tv] 120):=xI w _ _ _;rw [<- this];rfl
 refine iG i6 (aC q6) (fun c h=>by rw [p6] at h;cases h) hrun6 ?_;rw [d6,gW];have hG2:=gc hG [(16,tv),(17,bO tv),(18,tv),(19,bV tv),(20,.agg #[bO tv,bV tv])] _ act hG (List.all_eq_true.2 fun d hd=>by have:=nb d (by simp at hd ⊢;omega);simp [this]);have hG3:bv HC F M0 s M (bE [16,17,18,19,20] st) a5 w:=by rw [ha5];exact hG2
 have hnb5:au (get (bE [16,17,18,19,20] st) 5)=false:=by rw [oA [16,17,18,19,20] st (by simp)];exact nb 5 (by simp)
 obtain ⟨M2,hgb⟩:=UD (o:=o5) (E:=120) hG3.focus (fun d' hd=>by rw [d5] at hd;cases hd;exact hnb5) (t0:=.raw) (t1:=.raw) (x0:=bO tv) (x1:=bV tv) (u0:=bO tv) (u1:=bV tv) ⟨rfl,rfl,rfl⟩ ⟨rfl,rfl,rfl⟩;rw [d5] at hgb;have hmem:(oQ s st).2.mem ((some (tv,(((p,(cs,())),(ms,())),(ps,()))):Option (Value×bU)),(bE [16,17,18,19,20] st).set 5 (.box [.d .raw (bO tv),.d .raw (bV tv)])):=by
  unfold oQ;rw [e4];exact ⟨tv,rfl⟩
 have hbel:Below w.heap.size w (w.alloc (.cells #[bO tv,bV tv] 120)):=(Below.refl _ w).alloc (Nat.le_refl _) _;have hun:=hG3.unfocus (Fr.below hbel hG3.focus.room) hgb;exact hK _ hmem _ _ ⟨hfr.trans (Fr.below hbel hg.room),M2,Dl hun (aw.mono hgb.keep hrep)⟩
def pk (s:HC.σ) (st:St):Bool×Outs HC :=
 match get st 6 with
 | .own (.int .i64) xs _=>(st.length==44 && bL [43,2] st,.some [((none:Option (Value×bU)),(bE [43] st).set 2 (.d (.list (.int .i64)) xs))])
 | _=>(false,.some [])
def lN:Array Oper:=bp 18 (av Tryz.f48)
theorem OU:bw Tryz.prog HC lN 0 1 pk:=by
 intro F M0 w0 n hI hpl Q rest s st act w hc h1 hK;unfold pk at h1;split at h1;rotate_left
 . cases h1
 rename_i xs hot e6;simp only [Bool.and_eq_true,beq_iff_eq] at h1;obtain ⟨hlen,hnb⟩:=h1;have hmem:(pk s st).2.mem ((none:Option (Value×bU)),(bE [43] st).set 2 (.d (.list (.int .i64)) xs)):=by
  unfold pk;rw [e6];exact .head _
 have nb:∀ d∈[43,2],au (get st d)=false:=fun d hd=>by
  have:=List.all_eq_true.1 hnb d hd
  simpa using this
 obtain ⟨hfr,M,hG⟩:=hc;have hsz:act.tmps.size=44:=hG.2.1.size.trans hlen;have s6:=hG.2.1.slot 6;rw [e6] at s6;obtain ⟨o0,i0,d0,p0,q0⟩:=aB (ops:=lN) rfl (i:=0) (x:=(some 43,.move (.tmp 6),none)) (by kernel_rfl);obtain ⟨o1,i1,d1,p1,q1⟩:=aB (ops:=lN) rfl (i:=1) (x:=(some 2,.assign (.tmp 43),none)) (by kernel_rfl);simp only at d0 p0 q0 d1 p1 q1;show wpOpsIn (aA none) n Tryz.prog lN Q (0 :: 1 :: rest) act w;rw [wpOpsIn_cons];refine aV i0 (aC q0) (fun c h=>by rw [p0] at h;cases h) (fQ p0) ?_;rw [d0,wpOpsIn_cons];refine aV i1 (aC q1) (fun c h=>by rw [p1] at h;cases h) (tj p1) ?_;rw [d1,ay (by omega)];have hG0:bv HC F M0 (none:Option (Value×bU)) M st act w:=Dl hG (Dk _ _);have hG2:=gc hG0 [(43,tm act 6)] _ act hG0 (List.all_eq_true.2 fun d hd=>by have:=nb d (by simp at hd ⊢;omega);simp [this]);have hnb2:au (get (bE [43] st) 2)=false:=by rw [oA [43] st (by simp)];exact nb 2 (by simp)
 have hf:=hG2.focus.fin (dst:=some 2) (s:=.d (.list (.int .i64)) xs) (v:=tm act 6) (fun d' hd=>by cases hd;exact hnb2) rfl ⟨[tm act 6],rfl,s6.1⟩;exact hK _ hmem _ _ ⟨hfr,M,hG2.unfocus (Fr.refl _ _) hf⟩
def rv:List Spec:=[dr,rn]
def iw:List (Nat×List Nat):=[(7,[5,6,23,24]),(11,[5,6,7,8,23,24,27,28])]
def rD (s:Option (Value×bU)):List Spec:=[dr,rn]
def vI:Nat->Option (Nat×(Option (Value×bU)->St->Bool×Outs HC)):=fun i=>match i with|0=>some (6,oQ)|_=>none
theorem Kg:∀ i y,vI i=some y->bw Tryz.prog HC nK i y.1 y.2:=by
 intro i y h
 unfold vI at h
 split at h
 . cases h;exact LD
 . cases h
def vG:Nat->Option (Nat×(Option (Value×bU)->St->Bool×Outs HC)):=fun i=>match i with|2=>some (0,mG)|_=>none
theorem Ke:∀ i y,vG i=some y->bw Tryz.prog HC nJ i y.1 y.2:=by
 intro i y h
 unfold vG at h
 split at h
 . cases h;exact (MQ).one
 . cases h
def vH:Nat->Option (Nat×(Option (Value×bU)->St->Bool×Outs HC)):=fun i=>match i with|0=>some (1,pk)|_=>none
theorem Kf:∀ i y,vH i=some y->bw Tryz.prog HC lN i y.1 y.2:=by
 intro i y h
 unfold vH at h
 split at h
 . cases h;exact OU
 . cases h
def sk:List (List Nat×HdH HC):=[([1,1,1,0],⟨fun {ρ} k s st=>cf Tryz.prog HC (fun s=>ah (rD s)) iw vI 4 nK k s st⟩),
 ([1,1,1,1,1,0,1,0,0,1,1,0,0,1,0,1,1,0,1,0,0,1,1,0,0,1,0],⟨fun {ρ} k s st=>cf Tryz.prog HC (fun s=>ah (rD s)) iw vG 13 nJ k s st⟩),
 ([1,1,1,1,1,1,0],⟨fun {ρ} k s st=>cf Tryz.prog HC (fun s=>ah (rD s)) iw vH 18 lN k s st⟩)]
theorem Le (h:∀ s,∀ sp∈rD s,cT Tryz.prog HC s sp):bG Tryz.prog HC (av Tryz.f48) (sk):=(bJ (c' := .region 4 nK false) (by kernel_rfl) (cr (fun s g sp hs=>h s sp (List.mem_filter.1 hs).1) iw Kg) (bJ (c' := .region 13 nJ false) (by kernel_rfl) (cr (fun s g sp hs=>h s sp (List.mem_filter.1 hs).1) iw Ke) (bJ (c' := .region 18 lN false) (by kernel_rfl) (cr (fun s g sp hs=>h s sp (List.mem_filter.1 hs).1) iw Kf) dU)))
def L35_1 (N:Nat) (n_L35_0:Nat) (n_L35_1:Nat) (v_5:Value) (t24_7:Int) (x:aS) (r_3:jZ) (out_8:(List Int)) (w_9:Int) (t28_10:Int):Out (Option (Value×bU)×bB) :=
 ev Tryz.prog HC (ah rv) iw N (sk) Tryz.f48 true false ch [1,1,1,1,1,0,1,0,n_L35_0,1,1,0,0,1,0,1,1,0,1,0] n_L35_1 ((some (v_5,(((r_3.1.1.1,(r_3.1.1.2.1,())),(r_3.1.2.1,())),(r_3.2.1,()))):Option (Value×bU))) [U,U,U,U,U,.box [.d .raw ((bO v_5)),.d .raw ((bV v_5))],.own (.int .i64) out_8 false,.d (.int .i64) t24_7,.d (.int .i64) w_9,U,U,U,U,U,U,U,U,U,U,U,U,U,U,.d (.int .i64) (ae x.1.2.1),.d (.int .i64) t24_7,U,U,.d (.prod .raw (.prod .raw .unit)) (((bO v_5)),(((bV v_5)),())),.d (.int .i64) t28_10,U,U,U,U,U,U,U,U,U,U,U,U,U,U,U]
def L35_0 (N:Nat) (n_L35_0:Nat) (v_5:Value) (x:aS) (r_3:jZ) (out_6:(List Int)) (t24_7:Int):Out (Option (Value×bU)×bB) :=
 ev Tryz.prog HC (ah rv) iw N (sk) Tryz.f48 true false ch [1,1,1,1,1,0,1,0] n_L35_0 ((some (v_5,(((r_3.1.1.1,(r_3.1.1.2.1,())),(r_3.1.2.1,())),(r_3.2.1,()))):Option (Value×bU))) [U,U,U,U,U,.box [.d .raw ((bO v_5)),.d .raw ((bV v_5))],.own (.int .i64) out_6 false,U,U,U,U,U,U,U,U,U,U,U,U,U,U,U,U,.d (.int .i64) (ae x.1.2.1),.d (.int .i64) t24_7,U,U,U,U,U,U,U,U,U,U,U,U,U,U,U,U,U,U,U]
theorem L35_1_succ (N:Nat) (n_L35_0:Nat) (n_L35_1:Nat) (v_5:Value) (t24_7:Int) (x:aS) (r_3:jZ) (out_8:(List Int)) (w_9:Int) (t28_10:Int):L35_1 N n_L35_0 (n_L35_1+1) v_5 t24_7 x r_3 out_8 w_9 t28_10 =
 (
 match (decide (t28_10<(2:Int))) with
 | true =>
  bif t28_10==(0:Int) then
   bif (qJ (fB v_5 (((r_3.1.1.1,(r_3.1.1.2.1,())),(r_3.1.2.1,())),(r_3.2.1,())) ((bO v_5)) t24_7)) then
    match ((mn (fB v_5 (((r_3.1.1.1,(r_3.1.1.2.1,())),(r_3.1.2.1,())),(r_3.2.1,())) ((bO v_5)) t24_7))) with
    | true =>
     bif (bQ out_8 ([(IntKind.i64.wrap ((3:Int) - t28_10))]:List Int)) then
      L35_0 N n_L35_0 v_5 x r_3 (out_8++([(IntKind.i64.wrap ((3:Int) - t28_10))]:List Int)) (IntKind.i64.wrap (t24_7+(1:Int)))
     else .fail
    | false =>
     L35_1 N n_L35_0 n_L35_1 v_5 t24_7 x r_3 out_8 w_9 (IntKind.i64.wrap (t28_10+(1:Int)))
   else .fail
  else
  bif t28_10==(1:Int) then
   bif (qJ (fB v_5 (((r_3.1.1.1,(r_3.1.1.2.1,())),(r_3.1.2.1,())),(r_3.2.1,())) ((bV v_5)) t24_7)) then
    match ((mn (fB v_5 (((r_3.1.1.1,(r_3.1.1.2.1,())),(r_3.1.2.1,())),(r_3.2.1,())) ((bV v_5)) t24_7))) with
    | true =>
     bif (bQ out_8 ([(IntKind.i64.wrap ((3:Int) - t28_10))]:List Int)) then
      L35_0 N n_L35_0 v_5 x r_3 (out_8++([(IntKind.i64.wrap ((3:Int) - t28_10))]:List Int)) (IntKind.i64.wrap (t24_7+(1:Int)))
     else .fail
    | false =>
     L35_1 N n_L35_0 n_L35_1 v_5 t24_7 x r_3 out_8 w_9 (IntKind.i64.wrap (t28_10+(1:Int)))
   else .fail
  else
  .fail
 | false =>
  bif (bQ out_8 ([w_9]:List Int)) then
   L35_0 N n_L35_0 v_5 x r_3 (out_8++([w_9]:List Int)) (IntKind.i64.wrap (t24_7+(1:Int)))
  else .fail:Out (Option (Value×bU)×bB)):=by
 kernel_rfl
theorem L35_0_succ (N:Nat) (n_L35_0:Nat) (v_5:Value) (x:aS) (r_3:jZ) (out_6:(List Int)) (t24_7:Int):L35_0 N  (n_L35_0+1) v_5 x r_3 out_6 t24_7 =
 (match (decide (t24_7<(ae x.1.2.1))) with|true=>L35_1 N n_L35_0 N v_5 t24_7 x r_3 out_6 1 0|false=>.ret (((none:Option (Value×bU))),(out_6,(0,()))):Out (Option (Value×bU)×bB)):=by kernel_rfl
def wD (N:Nat) (x:aS):Out (Option (Value×bU)×bB):=match f55 (x.1,()) with | .ret r_1=>(match (!r_1) with|true=>.ret (((none:Option (Value×bU))),([],(2,())))|false=>match pN (x.1,()) with | .ret r_3=>(eD fun (v_5:Value)=>L35_0 N N v_5 x r_3 [] 0) | .pan p=>.pan p | .fail=>.fail) | .pan p=>.pan p | .fail=>.fail
theorem e35 (N:Nat) (x:aS):cD Tryz.prog HC (ah rv) iw N (sk) Tryz.f48 true false cB ch ((none:Option (Value×bU))) x=wD N x:=by kernel_rfl
def f35 (x:aS):Out bB:=dY (wD fuel x)
def Vr:Spec:=⟨48,.call,cB,ch,true,false,f35⟩
theorem Mh:am Tryz.prog Vr:=jM (H:=HC) (none:Option (Value×bU)) KS Dk (l:=rv) (fun sp hs=>(by simp only [rv,List.mem_cons,List.not_mem_nil,or_false] at hs;rcases hs with rfl|rfl<;>first|exact dh|exact sS)) Tryz.func48 rfl (Le fun s sp hs=>.inl (by simp only [rD,List.mem_cons,List.not_mem_nil,or_false] at hs;rcases hs with rfl|rfl<;>first|exact dh|exact sS)) iw fuel (e35 fuel)
end Go.V
end
