/- Part. -/
import Derived.Test.YtmkbnifehdhbbabGreatDoorDA
import Derived.Test.YtmkbnifehdhbbabGreatDoorVV
import Derived.Tactics
import Derived.Tactics2
import Derived.LoopNIn
set_option linter.all false
noncomputable section
namespace Go.V
open Go.Proofs
open Go.RowKit (Below)
def iJ (t:ac):Nat->Int->List Int
 | 0,f=>[f]
 | n+1,f=>if 0<f then f :: iJ t n (bC t f.toNat) else [f]
def aF (t:ac) (f:Int):List Int:=iJ t f.toNat f
structure PathOK (t:ac) (f:Int):Prop where
 par:∀ i,0<i->i<t.2.1.length->0<=bC t i/\bC t i<i
 at0:0<=f
 at1:f<t.2.1.length
 len:t.2.1.length<=1000000
theorem Hm {t:ac} (hp:∀ i,0<i->i<t.2.1.length->0<=bC t i/\bC t i<i):∀ (m n:Nat) (f:Int),0<=f->f<t.2.1.length->f<=m->f<=n->iJ t m f=iJ t n f
 | 0,n,f,h0,h1,h2,h3=>by
  cases n with
  | zero=>rfl
  | succ n=>simp only [iJ];rw [if_neg (by omega)]
 | m+1,0,f,h0,h1,h2,h3=>by simp only [iJ];rw [if_neg (by omega)]
 | m+1,n+1,f,h0,h1,h2,h3=>by
  simp only [iJ]
  by_cases e:0<f
  . have:=hp f.toNat (by omega) (by omega);rw [if_pos e,if_pos e,Hm hp m n _ this.1 (by omega) (by omega) (by omega)]
  . rw [if_neg e,if_neg e]
theorem ut {t:ac} {f:Int} (h:PathOK t f):aF t f=if 0<f then f :: aF t (bC t f.toNat) else [f]:=by
 by_cases e:0<f
 . have hp:=h.par f.toNat (by have:=h.at0;omega) (by have:=h.at1;omega);have h1:=h.at1;rw [if_pos e];unfold aF;obtain ⟨n,hn⟩:∃ n,f.toNat=n+1:=⟨f.toNat - 1,by omega⟩
   rw [hn];simp only [iJ];rw [if_pos e];rw [hn] at hp;rw [hn,Hm h.par n (bC t (n+1)).toNat _ hp.1 (by omega) (by omega) (by omega)]
 . have h0:=h.at0;rw [if_neg e];unfold aF;rw [show f.toNat=0 by omega];rfl
theorem PathOK.up {t:ac} {f:Int} (h:PathOK t f) (hf:0<f):PathOK t (bC t f.toNat):=by
 have hp:=h.par f.toNat (by omega) (by have:=h.at1;omega);have h1:=h.at1;exact ⟨h.par,hp.1,by omega,h.len⟩
structure PS where
 v:Value
 b:Nat
 tr:TR
 fr:Int
def HP:Hole where
 σ:=Option PS
 hb s _ b:=match s with|none=>False|some p=>b=p.b
 I s M w:=match s with
  | none=>True
  | some p=>w.heap[p.b]? = some (.cells #[.int .i64 p.fr] 3 (0,0))/\∃ bt c0 c1 c2,p.v = .func (.func 101) #[] #[.pointer (some ⟨p.b,0,none⟩),.pointer (some ⟨bt,0,none⟩)]/\gF M w bt 0 [c0,c1,c2]/\af M w df [c0,c1,c2] p.tr
 keep s M w M' w' h1 h2 h3:=by
  cases s with
  | none=>trivial
  | some p =>
   obtain ⟨g1,bt,c0,c1,c2,g2,g3,g4⟩:=h1;exact ⟨(h3 p.b rfl).trans g1,bt,c0,c1,c2,g2,g3.mono h2,af.mono h2 _ _ _ g4⟩
 same s M w w' h1 h2 b h3:=h3
 lt s M w b h1 h2:=by
  cases s with
  | none=>exact h2.elim
  | some p =>
   have h2:b=p.b:=h2;subst h2;exact (Array.getElem?_eq_some_iff.1 h1.1).1
 nd s M w b c h1 h2:=by
  cases s with
  | none=>exact h2.elim
  | some p =>
   have h2:b=p.b:=h2;subst h2;intro e;rw [h1.1] at e;cases e
theorem Ud {P:Program} [Inv P] {n:Nat} {ops:Array Oper} {Q:Exit->Act->World->Prop} {i:Nat} {o:Oper} {a:Act} {w w':World} {K:Act->World->Prop} (hi:ops[i]? = some o) (hw:Region.wanted o (yielded ops a.tmps)=true) (hd:∀ c,o.op ≠ .defer c) {l f:Nat} {tmps:Array Value} {assign body:Code}
 (hr:(execOp a.eval o).run P w = .ok (.round l f tmps assign body) w') (hK:RoundIn Fence.wide 0 P l f tmps assign body w' fun e w2=>∃ v,e = .returned v/\K (a.put o.dst v) w2):wpOpIn (aA none) n P ops Q i K a w:=by
 unfold wpOpIn;simp only [hi];rw [hw,if_pos rfl];refine ⟨fun f _=>fS none f,?_⟩;rw [Oper.semAt_eq _ _ _ fun c e=>absurd e (hd c),hr];refine ⟨fun hd=>(by rw [jg] at hd;cases hd),?_⟩;refine ⟨hK.1,fun c cs _=>?_⟩;obtain ⟨e,w2,⟨v,rfl,h⟩,hs⟩:=hK.2 c cs (room_wide _);exact ⟨.returned v,w2,h,hs⟩
theorem Py {a:Act} {w:World} {o:Oper} {p q l f:Nat} {u:Value} {tmps:Array Value} {assign body:Code} {Ts:Array TypeId} (ho:o.op = .call { callee:=.value (.tmp p),args := #[.tmp q],argTypes:=Ts }) (h0:tm a p = .func (.yield l) #[] #[]) (h1:tm a q=u)
 (hy:(Instr.yield l #[u]).run Tryz.prog w = .ok (.round l f tmps assign body) w):(execOp a.eval o).run Tryz.prog w = .ok (.round l f tmps assign body) w:=by
 have e0:a.eval (.tmp p) = .func (.yield l) #[] #[]:=h0;have e1:a.eval (.tmp q)=u:=h1;simp [execOp,ho,resolve,e0,e1,Deferred.ofValue,invoke,hy]
def gX:Array Oper:=bp 0 (av Tryz.f101)
def lP:Array Oper:=bp 1 (av Tryz.f101)
theorem li:gX.toList.map a_=[(some 4,.move (.tmp 0),none),(some 5,.load 3 (.tmp 1),none),(some 6,.call { callee:=.value (.tmp 4),args := #[.tmp 5],argTypes := #[3] },none),(some 7,.move (.tmp 6),none),(some 8,.load 3 (.tmp 1),some (3,true)),
 (some 9,.binOp .gtr 3 (.tmp 8) (.const (.int .i64 0)) 3,some (3,true)),(some 10,.pick (.tmp 7) (.tmp 9) (.const (.bool false)),none)]:=by kernel_rfl
theorem jV:lP.toList.map a_=[(some 11,.fieldAddr 87 (.tmp 2) 0,none),(some 12,.fieldAddr 24 (.tmp 11) 1,none),(some 13,.load 22 (.tmp 12),none),(some 14,.load 3 (.tmp 1),none),(some 15,.indexAddr 22 (.tmp 13) (.tmp 14),none),(some 16,.fieldAddr 69 (.tmp 15) 0,none),(some 17,.load 3 (.tmp 16),none),(none,.store 3 (.tmp 1) (.tmp 17),none)]:=by kernel_rfl
theorem Id:gX.size=7/\lP.size=8:=⟨by kernel_rfl,by kernel_rfl⟩
theorem LG:Tryz.f101.body=some (.block 0 (.loop (.seq (.seq (.region 0 gX false) (.cond (.tmp 10) .skip (.exit 0))) (.block 1 (.region 1 lP false))))):=by kernel_rfl
section
variable {a : Act} {w : World} {o : Oper}
theorem Pq {T E:TypeId} {e:Ty} (hu:Tryz.prog.underlying T=some (.slice E)) (hE:bj Tryz.prog 9 E=some e) {p q:Nat} (ho:o.op = .indexAddr T (.tmp p) (.tmp q)) {R off n cap:Nat} {i:Int} (h0:tm a p = .slice (some ⟨R,off,none⟩) n cap) (h1:tm a q = .int .i64 i) (hi0:0<=i) (hi:i<n) :
 (execOp a.eval o).run Tryz.prog w = .ok (.value (.pointer (some ⟨R,off+i.toNat * e.size,none⟩))) w:=by
 have e0:a.eval (.tmp p) = .slice (some ⟨R,off,none⟩) n cap:=h0;have e1:a.eval (.tmp q) = .int .i64 i:=h1;simp [execOp,ho,e0,e1,Instr.indexAt,asIntOf,run_underlying hu,fq hE,gh,hi0,hi]
theorem EL {T p:Nat} {t:Ty} (hty:bj Tryz.prog 9 T=some t) (hag:t.agg=false) (hts:t.size=1) (ho:o.op = .load T (.tmp p)) {b j:Nat} {v:Value} (ht:tm a p = .pointer (some ⟨b,j,none⟩)) (hv:w.cell? ⟨b,j,none⟩=some v) :
 (execOp a.eval o).run Tryz.prog w = .ok (.value v) w:=by
 have hl:=AP (P:=Tryz.prog) (n:=9) (T:=T) (t:=t) hty (w:=w) (b:=b) (o:=j) (cs:=[v]) hts.symm fun k hk=>by
  have hk:k<1:=hk;obtain rfl:k=0:=by omega
  exact hv
 have e1:a.eval (.tmp p) = .pointer (some ⟨b,j,none⟩):=ht;have e2:aP t [v]=v:=by unfold aP;rw [hag];rfl
 rw [e2] at hl;simp [execOp,ho,e1,Instr.loadAt,Instr.sureAddr,hl]
end
theorem Pp {a:Act} {w:World} {o:Oper} {p:Nat} (ho:o.op = .binOp .gtr 3 (.tmp p) (.const (.int .i64 0)) 3) {x:Int} (h:tm a p = .int .i64 x):(execOp a.eval o).run Tryz.prog w = .ok (.value (.bool (decide (x > 0)))) w:=by
 have e1:a.eval (.tmp p) = .int .i64 x:=h;have e2:a.eval (.const (.int .i64 0)) = .int .i64 0:=rfl;have e3:(binOp .gtr 3 (.int .i64 x) (.int .i64 0)).run Tryz.prog w = .ok (.bool (decide (x > 0))) w:=by simp [binOp,Op.intCmp]
 simp only [execOp,ho,e1,e2,Sem.run_bind];rw [show (eqGuard BinOp.gtr 3 (.tmp p) (.const (.int .i64 0)) (.int .i64 x) (.int .i64 0)).run Tryz.prog w = .ok () w from rfl];simp only [Result.andThen_ok,e3];rfl
theorem yv {a:Act} {w:World} {o:Oper} {p q:Nat} {v:Value} (ho:o.op = .pick (.tmp p) (.tmp q) (.const v)) {b:Bool} (h:tm a p = .bool b):(execOp a.eval o).run Tryz.prog w = .ok (.value (if b then tm a q else v)) w:=by
 have e1:a.eval (.tmp p) = .bool b:=h;have e2:a.eval (.const v)=v:=rfl;have e3:a.eval (.tmp q)=tm a q:=rfl;cases b<;>simp [execOp,ho,e1,e2,e3,asBool]
section
variable {a : Act} {w : World} {o : Oper} {p b j : Nat}
theorem Po (ho:o.op = .fieldAddr 87 (.tmp p) 0) (h:tm a p = .pointer (some ⟨b,j,none⟩)):(execOp a.eval o).run Tryz.prog w = .ok (.value (.pointer (some ⟨b,j,none⟩))) w:=by
 have e1:a.eval (.tmp p) = .pointer (some ⟨b,j,none⟩):=h;simp only [execOp,ho,e1];simp [go_sem]
theorem Pm (ho:o.op = .fieldAddr 24 (.tmp p) 1) (h:tm a p = .pointer (some ⟨b,j,none⟩)):(execOp a.eval o).run Tryz.prog w = .ok (.value (.pointer (some ⟨b,j+1,none⟩))) w:=by
 have e1:a.eval (.tmp p) = .pointer (some ⟨b,j,none⟩):=h;simp only [execOp,ho,e1];simp [go_sem]
theorem Pn (ho:o.op = .fieldAddr 69 (.tmp p) 0) (h:tm a p = .pointer (some ⟨b,j,none⟩)):(execOp a.eval o).run Tryz.prog w = .ok (.value (.pointer (some ⟨b,j,none⟩))) w:=by
 have e1:a.eval (.tmp p) = .pointer (some ⟨b,j,none⟩):=h;simp only [execOp,ho,e1];simp [go_sem]
end
structure PW (tr:TR) (pb bt:Nat) (c0 c1 c2:Value) (N0:ai) (W:World) (f:Int) (M1:ai) (W1:World):Prop where
 cell:W1.heap[pb]? = some (.cells #[.int .i64 f] 3 (0,0))
 keep:aL N0 W (fun b o=>M1 b o\/b=pb) W1
structure PA (l pb bt:Nat) (a:Act):Prop where
 size:a.tmps.size=18
 defers:a.defers=[]
 t0:tm a 0 = .func (.yield l) #[] #[]
 t1:tm a 1 = .pointer (some ⟨pb,0,none⟩)
 t2:tm a 2 = .pointer (some ⟨bt,0,none⟩)
theorem PA.put {l pb bt:Nat} {a:Act} (h:PA l pb bt a) {d:Nat} (hd:3<=d) (v:Value):PA l pb bt (a.put (some d) v) :=
 ⟨aG.trans h.size,Ex.trans h.defers,(aj (by omega)).trans h.t0,(aj (by omega)).trans h.t1,(aj (by omega)).trans h.t2⟩
set_option maxRecDepth 4000 in
theorem Hp {tr:TR} {fr:Int} {pb bt l:Nat} {c0 c1 c2:Value} {W:World} {N0:ai} {J:Nat->ai->World->Prop} {Jx:World->Prop} {R:Nat->Prop} {Q:Exit->Act->World->Prop}
 (hct:gF N0 W bt 0 [c0,c1,c2]) (hrep:af N0 W df [c0,c1,c2] tr) (hN:∀ o,N0 pb o) (hpW:pb<W.heap.size)
 (hJ:∀ i M1 W1 W2,J i M1 W1->kD (fun b=>b=pb) W W1 W2->J i M1 W2)
 (hround:∀ i M1 W1 u y,J i M1 W1->(aF tr.1 fr)[i]? = some y->aw M1 W1 (.int .i64) u y->∃ fn tmps assign body,(Instr.yield l #[u]).run Tryz.prog W1 = .ok (.round l fn tmps assign body) W1 /\
  RoundIn Fence.wide 0 Tryz.prog l fn tmps assign body W1 fun r W2=>(r = .returned (.bool true)/\∃ M2,J (i+1) M2 W2/\RoundKeeps R M1 W1 M2 W2/\∀ b,b=pb->W2.heap[b]? = W1.heap[b]?)\/(r = .returned (.bool false)/\Jx W2))
 (hQ:∀ a W2,a.defers=[]->((∃ M1,J (aF tr.1 fr).length M1 W2)\/Jx W2)->Q (.exit 0) a W2)
 {i:Nat} {f:Int} {M1:ai} {W1:World} {a:Act} (hp:PathOK tr.1 f) (hdr:(aF tr.1 fr).drop i=aF tr.1 f) (hj:J i M1 W1) (hw:PW tr pb bt c0 c1 c2 N0 W f M1 W1) (ha:PA l pb bt a)
 {K:Act->World->Prop} (hK:0<f->∀ M2 W2 a2,J (i+1) M2 W2->PW tr pb bt c0 c1 c2 N0 W (bC tr.1 f.toNat) M2 W2->PA l pb bt a2->(aF tr.1 fr).drop (i+1)=aF tr.1 (bC tr.1 f.toNat)->K a2 W2) :
 (Code.seq (.seq (.region 0 gX false) (.cond (.tmp 10) .skip (.exit 0))) (.block 1 (.region 1 lP false))).wpIn (aA none) 0 Tryz.prog (Exit.then K Q) a W1:=by
 have hy:(aF tr.1 fr)[i]? = some f:=by
  have e:((aF tr.1 fr).drop i)[0]? = some f:=by
   rw [hdr,ut hp];split<;>rfl
  rw [List.getElem?_drop] at e
  simpa using e
 have hlen:f=0->(aF tr.1 fr).length=i+1:=fun h0=>by
  have h1:((aF tr.1 fr).drop i).length=1:=by
   rw [hdr,ut hp,if_neg (by omega)];rfl
  have h2:=(List.getElem?_eq_some_iff.1 hy).1;rw [List.length_drop] at h1;omega
 have hdr':0<f->(aF tr.1 fr).drop (i+1)=aF tr.1 (bC tr.1 f.toNat):=fun h0=>by
  have h1:((aF tr.1 fr).drop i).drop 1=aF tr.1 (bC tr.1 f.toNat):=by
   rw [hdr,ut hp,if_pos h0];rfl
  rw [List.drop_drop] at h1;exact h1
 obtain ⟨o0,i0,d0,p0,q0⟩:=aB li (i:=0) rfl;obtain ⟨o1,i1,d1,p1,q1⟩:=aB li (i:=1) rfl;obtain ⟨o2,i2,d2,p2,q2⟩:=aB li (i:=2) rfl;obtain ⟨o3,i3,d3,p3,q3⟩:=aB li (i:=3) rfl;obtain ⟨o4,i4,d4,p4,q4⟩:=aB li (i:=4) rfl;obtain ⟨o5,i5,d5,p5,q5⟩:=aB li (i:=5) rfl;obtain ⟨o6,i6,d6,p6,q6⟩:=aB li (i:=6) rfl;simp only at d0 p0 q0 d1 p1 q1 d2 p2 q2 d3 p3 q3 d4 p4 q4 d5 p5 q5 d6 p6 q6;have hi3:(gX[3]?).bind (·.dst)=some 7:=by rw [i3];exact d3
 refine wpIn_seq (wpIn_seq (wpIn_region ?_));rw [Id.1];show wpOpsIn (aA none) 0 Tryz.prog gX _ [0,1,2,3,4,5,6] a W1;rw [wpOpsIn_cons];refine aV i0 (aC q0) (fun c h=>by rw [p0] at h;cases h) (fQ p0) ?_;rw [d0,ha.t0,wpOpsIn_cons];have ha0:=ha.put (d:=4) (by omega) (.func (.yield l) #[] #[]);obtain ⟨a0,e0⟩:∃ a0,a0=a.put (some 4) (.func (.yield l) #[] #[]):=⟨_,rfl⟩
 rw [<- e0] at ha0 ⊢;refine aV i1 (aC q1) (fun c h=>by rw [p1] at h;cases h) (kM (T:=3) (t:=.int .i64) (by kernel_rfl) rfl rfl p1 ha0.t1 hw.cell) ?_;rw [d1,wpOpsIn_cons];have ha1:=ha0.put (d:=5) (by omega) (.int .i64 f);obtain ⟨a1,e1⟩:∃ a1,a1=a0.put (some 5) (.int .i64 f):=⟨_,rfl⟩
 rw [<- e1] at ha1 ⊢;obtain ⟨fn,tmps,assign,body,hyr,hrnd⟩:=hround i M1 W1 (.int .i64 f) f hj hy ⟨_,rfl,rfl⟩;have t4:tm a1 4 = .func (.yield l) #[] #[]:=by rw [e1,aj (by omega),e0,ay (by rw [ha.size];omega)]
 have t5:tm a1 5 = .int .i64 f:=by rw [e1,ay (by rw [ha0.size];omega)]
 refine Ud i2 (aC q2) (fun c h=>by rw [p2] at h;cases h) (Py p2 t4 t5 hyr) (hrnd.mono ?_);rintro e W2 he;have hex:∃ b,e = .returned (.bool b)/\((b=true/\∃ M2,J (i+1) M2 W2/\RoundKeeps R M1 W1 M2 W2/\∀ b,b=pb->W2.heap[b]? = W1.heap[b]?)\/(b=false/\Jx W2)):=by
  rcases he with ⟨rfl,h⟩|⟨rfl,h⟩
  . exact ⟨true,rfl,.inl ⟨rfl,h⟩⟩
  . exact ⟨false,rfl,.inr ⟨rfl,h⟩⟩
 obtain ⟨b,rfl,hb⟩:=hex;refine ⟨.bool b,rfl,?_⟩;rw [d2,wpOpsIn_cons];have ha2:=ha1.put (d:=6) (by omega) (.bool b);obtain ⟨a2,e2⟩:∃ a2,a2=a1.put (some 6) (.bool b):=⟨_,rfl⟩
 rw [<- e2] at ha2 ⊢;refine aV i3 (aC q3) (fun c h=>by rw [p3] at h;cases h) (fQ p3) ?_;rw [d3,wpOpsIn_cons];have t6:tm a2 6 = .bool b:=by rw [e2,ay (by rw [ha1.size];omega)]
 rw [t6];have ha3:=ha2.put (d:=7) (by omega) (.bool b);obtain ⟨a3,e3⟩:∃ a3,a3=a2.put (some 7) (.bool b):=⟨_,rfl⟩
 rw [<- e3] at ha3 ⊢;have t7:tm a3 7 = .bool b:=by rw [e3,ay (by rw [ha2.size];omega)]
 rcases hb with ⟨rfl,M2,hj2,hk2,hc2⟩|⟨rfl,hx⟩
 . -- the loop goes on
   have hcell2:W2.heap[pb]? = some (.cells #[.int .i64 f] 3 (0,0)):=(hc2 pb rfl).trans hw.cell;have hst2:aL N0 W (fun b o=>M2 b o\/b=pb) W2:=fun b o v h1 h2=>by
    obtain ⟨g1,g2⟩:=hw.keep b o v h1 h2;obtain ⟨g3,g4⟩:=hk2.stable b o v g1 fun h=>g2 (.inl h)
    exact ⟨g3,fun h=>h.elim g4 fun h=>g2 (.inr h)⟩
   have w4:=iT (ops:=gX) (a:=a3) q4 hi3 (by rw [ha3.size];omega) t7;refine aV i4 w4 (fun c h=>by rw [p4] at h;cases h) (kM (T:=3) (t:=.int .i64) (by kernel_rfl) rfl rfl p4 ha3.t1 hcell2) ?_;rw [d4,wpOpsIn_cons];have ha4:=ha3.put (d:=8) (by omega) (.int .i64 f);obtain ⟨a4,e4⟩:∃ a4,a4=a3.put (some 8) (.int .i64 f):=⟨_,rfl⟩
   rw [<- e4] at ha4 ⊢;have t7':tm a4 7 = .bool true:=by rw [e4,aj (by omega)];exact t7
   have t8:tm a4 8 = .int .i64 f:=by rw [e4,ay (by rw [ha3.size];omega)]
   have w5:=iT (ops:=gX) (a:=a4) q5 hi3 (by rw [ha4.size];omega) t7';refine aV i5 w5 (fun c h=>by rw [p5] at h;cases h) (Pp p5 t8) ?_;rw [d5,wpOpsIn_cons];have ha5:=ha4.put (d:=9) (by omega) (.bool (decide (f > 0)));obtain ⟨a5,e5⟩:∃ a5,a5=a4.put (some 9) (.bool (decide (f > 0))):=⟨_,rfl⟩
   rw [<- e5] at ha5 ⊢;have t7'':tm a5 7 = .bool true:=by rw [e5,aj (by omega)];exact t7'
   have t9:tm a5 9 = .bool (decide (f > 0)):=by rw [e5,ay (by rw [ha4.size];omega)]
   refine aV i6 (aC q6) (fun c h=>by rw [p6] at h;cases h) (yv p6 t7'') ?_;rw [d6,if_pos rfl,t9];have ha6:=ha5.put (d:=10) (by omega) (.bool (decide (f > 0)));obtain ⟨a6,e6⟩:∃ a6,a6=a5.put (some 10) (.bool (decide (f > 0))):=⟨_,rfl⟩
   rw [<- e6] at ha6 ⊢;have t10:tm a6 10 = .bool (decide (f > 0)):=by rw [e6,ay (by rw [ha5.size];omega)]
   show (Code.cond (.tmp 10) .skip (.exit 0)).wpIn (aA none) 0 Tryz.prog _ a6 W2
   by_cases hf:f > 0
   . rw [decide_eq_true hf] at t10;refine wpIn_cond_true t10 (wpIn_skip ?_);show (Code.block 1 (.region 1 lP false)).wpIn (aA none) 0 Tryz.prog (Exit.then K Q) a6 W2;refine wpIn_block (wpIn_region ?_);rw [Id.2];show wpOpsIn (aA none) 0 Tryz.prog lP _ [0,1,2,3,4,5,6,7] a6 W2;have hf0:=hp.at0;have hf1:=hp.at1;have hctn:=hct.mono hst2;have hrepn:=af.mono hst2 _ _ _ hrep;obtain ⟨e1',e2',g1,⟨h1,h2,g2,g3,⟨h3,h4,g4,g5,g6⟩⟩,g7⟩:=hrepn;have g3:h1=[.int .i64 tr.1.1]:=g3;have g6:h4=[]:=g6;subst g6 g4 g3 g2;obtain ⟨ad,cap,g8,g9,g10⟩:=g5;subst g8;have g1:[c0,c1,c2]=[.int .i64 tr.1.1,.slice ad tr.1.2.1.length cap]++e2':=g1;have hc1:c1 = .slice ad tr.1.2.1.length cap:=by
      have:=congrArg (fun l=>l[1]?) g1
      simpa using this
     have hcell1:W2.cell? ⟨bt,1,none⟩=some (.slice ad tr.1.2.1.length cap):=by
      have:=(hctn 1 (by simp)).1;rw [<- hc1]
      simpa using this
     obtain ⟨nb,no,ec,k1,k2,k3,k4⟩:=g10 f.toNat (show f.toNat<tr.1.2.1.length by omega);subst k1;obtain ⟨x1,x2,k5,k6,k7⟩:=k4;have k6:x1=[.int .i64 (tr.1.2.1[f.toNat]'(show f.toNat<tr.1.2.1.length by omega)).1]:=k6;have hpar:(tr.1.2.1[f.toNat]'(show f.toNat<tr.1.2.1.length by omega)).1=bC tr.1 f.toNat:=by
      unfold bC;rw [List.getD_eq_getElem?_getD,List.getElem?_eq_getElem (by omega)];rfl
     rw [hpar] at k6;subst k6 k5;have hcellp:W2.cell? ⟨nb,no+f.toNat * 2,none⟩=some (.int .i64 (bC tr.1 f.toNat)):=by
      have:=(k3 0 (by simp)).1;exact this
     obtain ⟨o0,i0,d0,p0,q0⟩:=aB jV (i:=0) rfl;obtain ⟨o1,i1,d1,p1,q1⟩:=aB jV (i:=1) rfl;obtain ⟨o2,i2,d2,p2,q2⟩:=aB jV (i:=2) rfl;obtain ⟨o3,i3,d3,p3,q3⟩:=aB jV (i:=3) rfl;obtain ⟨o4,i4,d4,p4,q4⟩:=aB jV (i:=4) rfl;obtain ⟨o5,i5,d5,p5,q5⟩:=aB jV (i:=5) rfl;obtain ⟨o6,i6,d6,p6,q6⟩:=aB jV (i:=6) rfl;obtain ⟨o7,i7,d7,p7,q7⟩:=aB jV (i:=7) rfl;simp only at d0 p0 q0 d1 p1 q1 d2 p2 q2 d3 p3 q3 d4 p4 q4 d5 p5 q5 d6 p6 q6 d7 p7 q7;rw [wpOpsIn_cons];refine aV i0 (aC q0) (fun c h=>by rw [p0] at h;cases h) (Po p0 ha6.t2) ?_;rw [d0,wpOpsIn_cons];refine aV i1 (aC q1) (fun c h=>by rw [p1] at h;cases h) (Pm (b:=bt) (j:=0) p1 (ay (by rw [ha6.size];omega))) ?_;rw [d1,wpOpsIn_cons];refine aV i2 (aC q2) (fun c h=>by rw [p2] at h;cases h) (EL (T:=22) (t:=.list mf) (by kernel_rfl) rfl rfl p2 (ay (by rw [aG,ha6.size];omega)) hcell1) ?_;rw [d2,wpOpsIn_cons];refine aV i3 (aC q3) (fun c h=>by rw [p3] at h;cases h) (kM (T:=3) (t:=.int .i64) (by kernel_rfl) rfl rfl p3 (by rw [aj (by omega),aj (by omega),aj (by omega)];exact ha6.t1) hcell2) ?_;rw [d3,wpOpsIn_cons];refine aV i4 (aC q4) (fun c h=>by rw [p4] at h;cases h) (Pq (T:=22) (E:=69) (e:=.prod (.int .i64) jC) (by kernel_rfl) (by kernel_rfl) p4 (R:=nb) (off:=no) (n:=tr.1.2.1.length) (cap:=cap) (i:=f) (by rw [aj (by omega),ay (by simp only [aG];rw [ha6.size];omega)]) (ay (by simp only [aG];rw [ha6.size];omega)) (by omega) (by omega)) ?_;rw [d4,wpOpsIn_cons];refine aV i5 (aC q5) (fun c h=>by rw [p5] at h;cases h) (Pn (b:=nb) (j:=no+f.toNat * 2) p5 (ay (by simp only [aG];rw [ha6.size];omega))) ?_;rw [d5,wpOpsIn_cons];refine aV i6 (aC q6) (fun c h=>by rw [p6] at h;cases h) (EL (T:=3) (t:=.int .i64) (by kernel_rfl) rfl rfl p6 (ay (by simp only [aG];rw [ha6.size];omega)) hcellp) ?_;rw [d6,wpOpsIn_cons];refine iG i7 (aC q7) (fun c h=>by rw [p7] at h;cases h) (yw (T:=3) (t:=.int .i64) (by kernel_rfl) rfl p7 (b:=pb) (u:=.int .i64 (bC tr.1 f.toNat)) (by rw [aj (by omega),aj (by omega),aj (by omega),aj (by omega),aj (by omega),aj (by omega),aj (by omega)];exact ha6.t1) (ay (by simp only [aG];rw [ha6.size];omega)) rfl rfl hcell2) ?_;rw [d7,gW];obtain ⟨W3,hW3⟩:∃ W3,W3=W2.setRow pb #[.int .i64 (bC tr.1 f.toNat)]:=⟨_,rfl⟩
     rw [<- hW3];have hsz3:W3.heap.size=W2.heap.size:=by rw [hW3];exact setRow_size
     have hoth3:∀ k,k≠pb->W3.heap[k]? = W2.heap[k]? := fun k hk=>by rw [hW3];exact setRow_other hk
     have hstep:kD (fun b=>b=pb) W W2 W3:=by
      refine ⟨⟨?_,?_,?_,Nat.le_of_eq hsz3.symm,fun k hk=>hoth3 k hk.2⟩,fun k ob h1 h2 _=>(hoth3 k h1).trans h2⟩<;>rw [hW3]<;>rfl
     refine hK hf M2 W3 _ (hJ _ _ _ _ hj2 hstep) ⟨?_,fun b o v h1 h2=>?_⟩ ?_ (hdr' hf)
     . rw [hW3];exact lU hcell2
     . obtain ⟨g3,g4⟩:=hst2 b o v h1 h2;exact ⟨(World.cell?_of_block (a:=⟨b,o,none⟩) (hoth3 b fun e=>g4 (.inr e))).trans g3,g4⟩
     . exact ((((((ha6.put (by omega) _).put (by omega) _).put (by omega) _).put (by omega) _).put (by omega) _).put (by omega) _).put (by omega) _
   . rw [decide_eq_false hf] at t10;refine wpIn_cond_false t10 (wpIn_exit ?_);have h0:=hp.at0;have hl:=hlen (by omega);exact hQ a6 W2 ha6.defers (.inl ⟨M2,by rw [hl];exact hj2⟩)
 . -- it is broken off
   have w4:=iT (ops:=gX) (a:=a3) q4 hi3 (by rw [ha3.size];omega) t7;refine qK i4 w4 ?_;rw [d4,wpOpsIn_cons];have ha4:=ha3.put (d:=8) (by omega) undef;obtain ⟨a4,e4⟩:∃ a4,a4=a3.put (some 8) undef:=⟨_,rfl⟩
   rw [<- e4] at ha4 ⊢;have t7':tm a4 7 = .bool false:=by rw [e4,aj (by omega)];exact t7
   have w5:=iT (ops:=gX) (a:=a4) q5 hi3 (by rw [ha4.size];omega) t7';refine qK i5 w5 ?_;rw [d5,wpOpsIn_cons];have ha5:=ha4.put (d:=9) (by omega) undef;obtain ⟨a5,e5⟩:∃ a5,a5=a4.put (some 9) undef:=⟨_,rfl⟩
   rw [<- e5] at ha5 ⊢;have t7'':tm a5 7 = .bool false:=by rw [e5,aj (by omega)];exact t7'
   refine aV i6 (aC q6) (fun c h=>by rw [p6] at h;cases h) (yv p6 t7'') ?_;rw [d6,if_neg (by simp)];have ha6:=ha5.put (d:=10) (by omega) (.bool false);obtain ⟨a6,e6⟩:∃ a6,a6=a5.put (some 10) (.bool false):=⟨_,rfl⟩
   rw [<- e6] at ha6 ⊢;have t10:tm a6 10 = .bool false:=by rw [e6,ay (by rw [ha5.size];omega)]
   show (Code.cond (.tmp 10) .skip (.exit 0)).wpIn (aA none) 0 Tryz.prog _ a6 W2;refine wpIn_cond_false t10 (wpIn_exit ?_);exact hQ a6 W2 ha6.defers (.inr hx)
set_option maxRecDepth 4000 in
theorem Un {tr:TR} {fr:Int} {pb bt l:Nat} {c0 c1 c2:Value} {W:World} {N0:ai} {J:Nat->ai->World->Prop} {Jx:World->Prop} {R:Nat->Prop} {Q:Exit->Act->World->Prop}
 (hct:gF N0 W bt 0 [c0,c1,c2]) (hrep:af N0 W df [c0,c1,c2] tr) (hN:∀ o,N0 pb o) (hpW:pb<W.heap.size)
 (hJ:∀ i M1 W1 W2,J i M1 W1->kD (fun b=>b=pb) W W1 W2->J i M1 W2)
 (hround:∀ i M1 W1 u y,J i M1 W1->(aF tr.1 fr)[i]? = some y->aw M1 W1 (.int .i64) u y->∃ fn tmps assign body,(Instr.yield l #[u]).run Tryz.prog W1 = .ok (.round l fn tmps assign body) W1 /\
  RoundIn Fence.wide 0 Tryz.prog l fn tmps assign body W1 fun r W2=>(r = .returned (.bool true)/\∃ M2,J (i+1) M2 W2/\RoundKeeps R M1 W1 M2 W2/\∀ b,b=pb->W2.heap[b]? = W1.heap[b]?)\/(r = .returned (.bool false)/\Jx W2))
 (hQ:∀ a W2,a.defers=[]->((∃ M1,J (aF tr.1 fr).length M1 W2)\/Jx W2)->Q (.exit 0) a W2) :
 ∀ (m i:Nat) (f:Int) (M1:ai) (W1:World) (a:Act),PathOK tr.1 f->f<=m->(aF tr.1 fr).drop i=aF tr.1 f->J i M1 W1->PW tr pb bt c0 c1 c2 N0 W f M1 W1->PA l pb bt a ->
  Code.roundsIn (aA none) 0 Tryz.prog (.seq (.seq (.region 0 gX false) (.cond (.tmp 10) .skip (.exit 0))) (.block 1 (.region 1 lP false))) Q (m+1) a W1:=by
 intro m
 induction m with
 | zero =>
  intro i f M1 W1 a hp hm hd hj hw ha;exact Hp hct hrep hN hpW hJ hround hQ hp hd hj hw ha fun h=>by omega
 | succ m ih =>
  intro i f M1 W1 a hp hm hd hj hw ha;refine Hp hct hrep hN hpW hJ hround hQ hp hd hj hw ha fun h M2 W2 a2 hj2 hw2 ha2 hd2=>?_
  have hpar:=hp.par f.toNat (by omega) (by have:=hp.at1;omega);exact ih (i+1) _ M2 W2 a2 (hp.up h) (by omega) hd2 hj2 hw2 ha2
open Go.RowKit (Below)
def Zf (F:Nat->Prop) (M0:Base):Prop:=∀ b,b<M0.ws.heap.size->F b
section
variable {P : Program} [Inv P] {H : Hole} {Φ : Nat → List Spec} {ρ : Type}
def rY (P:Program) [Inv P] (H:Hole) (c:Code) (E:{ρ:Type}->(X->H.σ->St->Out ρ)->H.σ->St->Out ρ):Prop :=
 ∀ {ρ:Type} {fin:Out ρ} (_:fin ≠ .fail) (_:∀ p,fin ≠ .pan p) (F:Nat->Prop) (M0:Base) (w0:World) (n:Nat),Zf F M0->(∀ w,Fr F w0 w->Inv.I P w)->(∀ j v,M0.pin j=some v->False) ->
  ∀ (k:X->H.σ->St->Out ρ) (Q:Exit->Act->World->Prop),
   (∀ x s st a w,bH H F M0 w0 s st a w->k x s st=fin->Q x.exit' a w)->∀ s st a w,bH H F M0 w0 s st a w->E k s st=fin->c.wpIn (aA none) n P Q a w
def du (P:Program) [Inv P] (H:Hole) (c:Code) (T:List (List Nat×HdH H)):Prop:=∀ e∈T,∃ c',fi e.1 c=some c'/\rY P H c' (fun {ρ} k s st=>e.2.run (ρ:=ρ) k s st)
theorem DM {c:Code}:du P H c []:=fun _ h=>absurd h List.not_mem_nil
theorem xG {c c':Code} {p:List Nat} {E:HdH H} {T:List (List Nat×HdH H)} (h1:fi p c=some c') (h2:rY P H c' (fun {ρ} k s st=>E.run (ρ:=ρ) k s st)) (hT:du P H c T):du P H c ((p,E) :: T):=by
 intro e he;rcases List.mem_cons.1 he with rfl|he
 . exact ⟨c',h1,h2⟩
 . exact hT e he
theorem du.seq {a b:Code} {T:List (List Nat×HdH H)} (h:du P H (.seq a b) T):du P H a (cg 0 T)/\du P H b (cg 1 T) :=
 ⟨fun e he=>h _ (eH he),fun e he=>h _ (eH he)⟩
theorem du.cond {c:Operand} {a b:Code} {T:List (List Nat×HdH H)} (h:du P H (.cond c a b) T):du P H a (cg 0 T)/\du P H b (cg 1 T) :=
 ⟨fun e he=>h _ (eH he),fun e he=>h _ (eH he)⟩
theorem sB {c c':Code} {p:List Nat} {E:HdH H} {T:List (List Nat×HdH H)} (h1:fi p c=some c') (h2:h_ P H c' (fun {ρ} k s st=>E.run (ρ:=ρ) k s st)) (hT:du P H c T):du P H c ((p,E) :: T) :=
 xG h1 (fun hf hr F M0 w0 n _ hI hpl k Q hQ s st a w hc he=>h2 hf hr F M0 w0 n hI hpl k Q hQ s st a w hc he) hT
def KU (P:Program) [Inv P] (H:Hole) (Φ:Nat->List Spec) (hints:List (Nat×List Nat)) (N:Nat) {ρ:Type} (fin:Out ρ) (c:Code):Prop :=
 ∀ (T:List (List Nat×HdH H)),du P H c T->∀ (F:Nat->Prop) (M0:Base) (w0:World) (n:Nat),Zf F M0->(∀ w,Fr F w0 w->Inv.I P w)->(∀ j v,M0.pin j=some v->False) ->
  ∀ (k:X->H.σ->St->Out ρ) (Q:Exit->Act->World->Prop),
   (∀ x s st a w,bH H F M0 w0 s st a w->k x s st=fin->Q x.exit' a w)->∀ s st a w,bH H F M0 w0 s st a w->ct P H Φ hints N c T k s st=fin->c.wpIn (aA none) n P Q a w
theorem nz (hΦ:∀ g sp,sp∈Φ g->am P sp) (hm:P.follows .mixedOrders=true) (hints:List (Nat×List Nat)) (N:Nat) {fin:Out ρ} (hf:fin ≠ .fail) (hr:∀ p,fin ≠ .pan p) {c:Code} {T:List (List Nat×HdH H)} (hT:du P H c T) {F:Nat->Prop} {M0:Base} {w0:World} {n:Nat} (hz:Zf F M0)
 (hI:∀ w,Fr F w0 w->Inv.I P w) (hpl:∀ j v,M0.pin j=some v->False) {k:X->H.σ->St->Out ρ} {Q:Exit->Act->World->Prop}
 (hQ:∀ x s st a w,bH H F M0 w0 s st a w->k x s st=fin->Q x.exit' a w) {s:H.σ} {st:St} {a:Act} {w:World} (hc:bH H F M0 w0 s st a w) {new:Out ρ} (h:iK T (bz P Φ hints N c none (fun x st=>k x s st) st) (fun E=>E.run k s st) new=fin)
 (hnew:new=fin->c.wpIn (aA none) n P Q a w):c.wpIn (aA none) n P Q a w:=by
 unfold iK at h;split at h
 . obtain ⟨N0,hpn,hcl,hback⟩:=hc.lift;exact ig hΦ hm hints N hf c _ _ w none none n (fun _=>rfl) (hc.inv hI) (fun j v hj=>(hpl j v (hpn j v hj)).elim) (fun x st=>k x s st) Q (fun _ p q hp=>absurd hp (hr p)) (fun x st a w hc h=>hQ x s st a w (hback _ _ _ hc) h) st a w hcl h
 . split at h
   . rename_i E hE;obtain ⟨c',e1,e2⟩:=hT _ (zO hE);cases e1;exact e2 hf hr F M0 w0 n hz hI hpl k Q hQ s st a w hc h
   . exact hnew h
theorem Wp (hΦ:∀ g sp,sp∈Φ g->am P sp) (hm:P.follows .mixedOrders=true) (hints:List (Nat×List Nat)) (N:Nat) {fin:Out ρ} (hf:fin ≠ .fail) (hr:∀ p,fin ≠ .pan p):∀ (c:Code),KU P H Φ hints N fin c:=by
 intro c
 induction c with
 | seq x y ihx ihy =>
  intro T hT F M0 w0 n hz hI hpl k Q hQ s st a w hc h;unfold ct at h;refine nz hΦ hm hints N hf hr hT hz hI hpl hQ hc h fun h=>?_
  refine wpIn_seq (ihx _ hT.seq.1 F M0 w0 n hz hI hpl _ _ ?_ s st a w hc h);intro e s st a w hc h;cases e with
  | normal=>exact ihy _ hT.seq.2 F M0 w0 n hz hI hpl k Q hQ s st a w hc h
  | exit i=>exact hQ (.exit i) s st a w hc h
  | ret=>exact hQ .ret s st a w hc h
 | cond c x y ihx ihy =>
  intro T hT F M0 w0 n hz hI hpl k Q hQ s st a w hc h;unfold ct at h;refine nz hΦ hm hints N hf hr hT hz hI hpl hQ hc h fun h=>?_
  split at h;rotate_left
  . exact absurd h.symm hf
  rename_i v e;obtain ⟨hb,M,hg⟩:=id hc;refine wpIn_cond (jy (e ▸ bx hg.2.1 c)) ?_;cases v with
  | true =>
   dsimp only at h;rw [uE e] at h;exact ihx _ hT.cond.1 F M0 w0 n hz hI hpl k Q hQ s st a w hc h
  | false =>
   dsimp only at h;rw [uE e] at h;exact ihy _ hT.cond.2 F M0 w0 n hz hI hpl k Q hQ s st a w hc h
 | block id b ih =>
  intro T hT F M0 w0 n hz hI hpl k Q hQ s st a w hc h;unfold ct at h;refine nz hΦ hm hints N hf hr hT hz hI hpl hQ hc h fun h=>?_
  refine wpIn_block (ih _ (fun e he=>hT _ (eH he)) F M0 w0 n hz hI hpl _ _ ?_ s st a w hc h);intro x s st a w hc h;cases x with
  | normal=>exact hQ .normal s st a w hc h
  | ret=>exact hQ .ret s st a w hc h
  | exit i =>
   show if i=id then _ else _
   dsimp only at h;split
   . rename_i e;rw [if_pos e] at h;exact hQ .normal s st a w hc h
   . rename_i e;rw [if_neg e] at h;exact hQ (.exit i) s st a w hc h
 | loop b ih =>
  intro T hT F M0 w0 n hz hI hpl k Q hQ s st a w hc h;unfold ct at h;refine nz hΦ hm hints N hf hr hT hz hI hpl hQ hc h fun h=>?_
  have key:∀ m s st a w,bH H F M0 w0 s st a w->mZ (fun k' s st=>ct P H Φ hints N b (cg 0 T) k' s st) (Go.V.maskOf hints b) k m s st=fin->Code.roundsIn (aA none) n P b Q m a w:=by
   intro m
   induction m with
   | zero=>intro s st a w _ h;exact absurd h.symm hf
   | succ m ihm =>
    intro s st a w hc h;refine ih _ (fun e he=>hT _ (eH he)) F M0 w0 n hz hI hpl _ _ ?_ s st a w hc h;intro x s st a w hc h;cases x with
    | normal=>exact ihm s _ a w (hc.maskOf hpl) h
    | exit i=>exact hQ (.exit i) s st a w hc h
    | ret=>exact hQ .ret s st a w hc h
  exact wpIn_loop_rounds N (key N s _ a w (hc.maskOf hpl) h)
 | scope b ih =>
  intro T hT F M0 w0 n hz hI hpl k Q hQ s st a w hc h;unfold ct at h;refine nz hΦ hm hints N hf hr hT hz hI hpl hQ hc h fun h=>?_
  refine wpIn_wide.2 (wp_scope_straight ((wpIn_wide (n:=n)).1 (ih _ (fun e he=>hT _ (eH he)) F M0 w0 n hz hI hpl k _ ?_ s st a w hc h)));intro x s st a w hc h;have:=hQ x s st a w hc h;cases x<;>exact this
 | _ =>
  intro T hT F M0 w0 n hz hI hpl k Q hQ s st a w hc h;unfold ct at h;exact nz hΦ hm hints N hf hr hT hz hI hpl hQ hc h fun h=>absurd h.symm hf
theorem MY (hm:P.follows .mixedOrders=true) (hΦ:∀ g sp,sp∈Φ g->am P sp) {fnn:Nat} {fn:Func} {c:Code} (hfn:P.funcs[fnn]? = some fn) (hb:fn.body=some c) {T:List (List Nat×HdH H)} (hT:du P H c T) {hints:List (Nat×List Nat)} {N:Nat}
 {arg res:Ty} {multi own:Bool} {s s':H.σ} {x:arg.den} {r:res.den} {M:ai} {w:World} {vs:Array Value} (hI:∀ w',Fr (fun k=>k<w.heap.size/\¬ H.hb s w k) w w'->Inv.I P w') (h0:∀ b,¬ H.hb s w b) (hs:H.I s M w) (hvs:bN M w arg vs.toList x) (hlt:∀ b o,M b o->b<w.heap.size) (hh:∀ b,H.hb s w b->∀ o,M b o)
 (h:cD P H Φ hints N T fn multi own arg res s x = .ret (s',r)) :
 Calls P fnn vs w fun e w'=>∃ v,e = .returned v/\Fr (fun k=>k<w.heap.size/\¬ H.hb s w k) w w'/\(∀ b,H.hb s' w' b->H.hb s w b\/w.heap.size<=b) /\
  ∃ M',H.I s' M' w'/\(∀ b o,M b o->H.hb s w b\/M' b o)/\(∀ b o,M' b o->M b o\/(w.heap.size<=b/\b<w'.heap.size))/\(∀ b,H.hb s' w' b->∀ o,M' b o)/\aI M' w' [] ⟨#[],[]⟩ v (bP multi own res r) /\
   ∀ b,bf (bP multi own res r)=true->ag v=some b->w.heap.size<=b\/H.hb s w b:=by
 have hst:=u6 (n:=fn.ntmps) hvs hlt hs hh;unfold cD av at h;rw [hb] at h;refine callsIn_wide.1 (callsIn_of_wp_marks (n:=0) hfn hb trivial (Wp hΦ hm hints N (by simp) (by simp) c T hT _ _ _ _ (fun b hb=>⟨hb,h0 b⟩) hI (fun j v hj=>by cases hj) _ _ ?_ s _ _ _ hst h));intro e s2 st a w' hc hk;have key:(match dH P fn.results.toList multi own res st with | .ret r=>Out.ret (s2,r)|_=>.fail) = .ret (s',r)->LeavesInM Fence.wide 0 P fn a.tmps (fun e w'=>∃ v,e = .returned v/\Fr (fun k=>k<w.heap.size/\¬ H.hb s w k) w w'/\(∀ b,H.hb s' w' b->H.hb s w b\/w.heap.size<=b) /\
  ∃ M',H.I s' M' w'/\(∀ b o,M b o->H.hb s w b\/M' b o)/\(∀ b o,M' b o->M b o\/(w.heap.size<=b/\b<w'.heap.size))/\(∀ b,H.hb s' w' b->∀ o,M' b o)/\aI M' w' [] ⟨#[],[]⟩ v (bP multi own res r) /\
   ∀ b,bf (bP multi own res r)=true->ag v=some b->w.heap.size<=b\/H.hb s w b) a.defers .returning w':=by
  intro hk;split at hk;rotate_left
  . cases hk
  rename_i r2 hv;cases hk;obtain ⟨hfr,M',hG⟩:=hc;refine gR (M0:=jI (kF (H.hb s w) M w) (H.hb s' w') M' w') (F:=fun b=>(b<w.heap.size/\¬ H.hb s w b)\/H.hb s' w' b) (w0:=w') (st:=st) (by simp) (fun M2 w2 hg2 hf2=>?_) (fun D hD hF=>hF.elim hD.1 hD.2) a.defers M' w' hG.focus (Fr.refl _ _);obtain ⟨r',h1,v,h2,h3,h4⟩:=iS (fn:=fn) hg2 (by simp) hv;cases h1;have hG2:=hG.unfocus hf2 hg2;refine ⟨v,h2,v,rfl,hfr.trans (jQ hf2),fun b hb=>?_,M2,hG2.1,fun b o hM=>?_,fun b o hM=>?_,fun b hb=>(hG2.2.2 b hb).2.1,h3,fun b h5 h6=>?_⟩
  . rcases Nat.lt_or_ge b w.heap.size with h5|h5
    . by_cases h6:H.hb s w b
      . exact .inl h6
      . exact absurd ⟨h5,h6⟩ (hG2.2.2 b hb).1
    . exact .inr h5
  . by_cases h6:H.hb s w b
    . exact .inl h6
    . exact .inr (hG2.2.1.up b o ⟨hM,hlt b o hM,h6⟩)
  . rcases Nat.lt_or_ge b w.heap.size with h5|h5
    . by_cases h6:H.hb s w b
      . exact .inl (hh b h6 o)
      . exact .inl (hG2.2.1.down b o ⟨h5,h6⟩ hM).1
    . exact .inr ⟨h5,hG2.2.1.lt b o hM⟩
  . have h7:=h4 b h5 h6;rcases Nat.lt_or_ge b w.heap.size with h8|h8
    . by_cases h9:H.hb s w b
      . exact .inr h9
      . exact absurd (.inl ⟨h8,h9⟩) h7
    . exact .inl h8
 cases e with
 | normal=>exact key hk
 | ret=>exact key hk
 | exit i=>cases hk
theorem Np (hm:P.follows .mixedOrders=true) {l:List Spec} (hl:∀ sp∈l,am P sp) {fnn:Nat} {arg res:Ty} {multi own:Bool} {f:arg.den->Out res.den} {fn:Func} {c:Code}
 (hfn:P.funcs[fnn]? = some fn) (hb:fn.body=some c) {T:List (List Nat×HdH H)} (hT:du P H c T) (hints:List (Nat×List Nat)) {s:H.σ} (h0:∀ w b,¬ H.hb s w b) (hI0:∀ M w,H.I s M w) (hp:∀ x p,f x ≠ .pan p)
 (h:∀ x r,f x = .ret r->∃ n s',cD P H (ah l) hints n T fn multi own arg res s x = .ret (s',r)):am P ⟨fnn,.call,arg,res,multi,own,f⟩:=by
 intro x M w vs hIw hvs hlt;cases hx:f x with
 | fail=>simp only [hx]
 | pan p=>exact absurd hx (hp x p)
 | ret r =>
  simp only [hx];obtain ⟨n,s',hv⟩:=h x r hx;refine (MY hm (eK hl) hfn hb hT (fun w' hw'=>Inv.below _ _ hIw (Fr.toBelow ⟨hw'.os,hw'.tape,hw'.output,hw'.size,fun k hk=>hw'.block k ⟨hk,h0 w k⟩⟩)) (h0 w) (hI0 M w) hvs hlt (fun b hB=>absurd hB (h0 w b)) hv).mono ?_;rintro e w' ⟨v,rfl,h1,h3,M',h2,h4,h5,h6,h7,h8⟩;exact ⟨v,rfl,Fr.toBelow ⟨h1.os,h1.tape,h1.output,h1.size,fun k hk=>h1.block k ⟨hk,h0 w k⟩⟩,M',fun b o hM=>(h4 b o hM).resolve_left (h0 w b),h5,h7,fun b h9 h10=>(h8 b h9 h10).resolve_right (h0 w b)⟩
theorem Nn {H:Hole} (s0:H.σ) (h0:∀ w b,¬ H.hb s0 w b) (hI0:∀ M w,H.I s0 M w) (hm:P.follows .mixedOrders=true) {l:List Spec} (hl:∀ sp∈l,am P sp) {fnn:Nat} {arg res:Ty} {multi own:Bool} {f:arg.den->Out res.den} {F:arg.den->Out (H.σ×res.den)} {fn:Func} {c:Code}
 (hfn:P.funcs[fnn]? = some fn) (hb:fn.body=some c) {T:List (List Nat×HdH H)} (hT:du P H c T) (hints:List (Nat×List Nat)) (n:Nat)
 (h:∀ x,cD P H (ah l) hints n T fn multi own arg res s0 x=F x) (hp:∀ x p,f x ≠ .pan p) (hF:∀ x r,f x = .ret r->∃ s,F x = .ret (s,r)):am P ⟨fnn,.call,arg,res,multi,own,f⟩ :=
 Np (s:=s0) hm hl hfn hb hT hints h0 hI0 hp fun x r hr=>by
  obtain ⟨s',hs⟩:=hF x r hr;exact ⟨n,s',(h x).trans hs⟩
end
open Go.RowKit (Below)
set_option maxRecDepth 20000 in
theorem MT {tr:TR} {fr:Int} {M:ai} {w:World} {v0:Value} (hrep:aw M w df v0 tr) (hlt:∀ b o,M b o->b<w.heap.size) :
 Calls Tryz.prog 66 #[v0,.int .i64 fr] w fun e w'=>∃ p:PS,p.tr=tr/\p.fr=fr/\e = .returned p.v/\Below w.heap.size w w'/\w.heap.size<=p.b/\p.b<w'.heap.size/\HP.I (some p) (fun b o=>M b o\/b=p.b) w':=by
 obtain ⟨cs,rfl,e1,e2,g1,⟨h1,h2,g2,g3,⟨h3,h4,g4,g5,g6⟩⟩,⟨m1,m2,k1,k2,k3⟩⟩:=hrep;have g3:h1=[.int .i64 tr.1.1]:=g3;have g6:h4=[]:=g6;have k3:m2=[]:=k3;subst g3 g6 k3 g4 g2 k1 g1;have g5':=g5;have k2':=k2;obtain ⟨ad,cap,g8,_⟩:=g5';obtain ⟨ad2,cap2,k8,_⟩:=k2';subst g8 k8;have hw:Calls Tryz.prog 66 #[.agg #[.int .i64 tr.1.1,.slice ad tr.1.2.1.length cap,.slice ad2 tr.2.1.length cap2],.int .i64 fr] w fun e w'=>e = .returned (.func (.func 101) #[] #[.pointer (some ⟨w.heap.size+1,0,none⟩),.pointer (some ⟨w.heap.size,0,none⟩)]) /\
  w'=(w.alloc (.cells #[.int .i64 tr.1.1,.slice ad tr.1.2.1.length cap,.slice ad2 tr.2.1.length cap2] 87)).alloc (.cells #[.int .i64 fr] 3):=by
  have hmf:∀ (fn:Fn) (first cap:Array Value) (w:World),(Instr.makeFunc fn first cap).run Tryz.prog w = .ok (.func fn first cap) w:=fun _ _ _ _=>rfl
  go_enter Tryz.func66,Tryz.ntmps66
  go_wp2
  simp [bodyPost,results,Tryz.results66,go_sem]
 refine hw.mono ?_;rintro e w' ⟨rfl,rfl⟩;obtain ⟨w1,hw1⟩:∃ w1,w1=w.alloc (.cells #[.int .i64 tr.1.1,.slice ad tr.1.2.1.length cap,.slice ad2 tr.2.1.length cap2] 87):=⟨_,rfl⟩
 rw [<- hw1];have hs1:w1.heap.size=w.heap.size+1:=by rw [hw1];simp
 have hs2:(w1.alloc (.cells #[.int .i64 fr] 3)).heap.size=w.heap.size+2:=by rw [World.size_alloc,hs1]
 have hB1:Below w.heap.size w w1:=by rw [hw1];exact (Below.refl _ w).alloc (Nat.le_refl _) _
 have hB:Below w.heap.size w (w1.alloc (.cells #[.int .i64 fr] 3)):=hB1.alloc (by omega) _;have hb:(w1.alloc (.cells #[.int .i64 fr] 3)).heap[w.heap.size+1]? = some (.cells #[.int .i64 fr] 3 (0,0)):=Rx hs1.symm;have ht:(w1.alloc (.cells #[.int .i64 fr] 3)).heap[w.heap.size]? = some (.cells #[.int .i64 tr.1.1,.slice ad tr.1.2.1.length cap,.slice ad2 tr.2.1.length cap2] 87 (0,0)):=by
  rw [heap_alloc_old w1 _ (by omega),hw1];exact heap_alloc_new w _
 have hst:aL M w (fun b o=>M b o\/b=w.heap.size+1) (w1.alloc (.cells #[.int .i64 fr] 3)):=fun b o v h1 h2=>by
  have:=c_ h1;exact ⟨(World.cell?_of_block (a:=⟨b,o,none⟩) (hB.block b this)).trans h1,fun h=>h.elim h2 fun h=>by omega⟩
 refine ⟨⟨_,w.heap.size+1,tr,fr⟩,rfl,rfl,rfl,hB,by show w.heap.size<=w.heap.size+1;omega,by rw [hs2];show w.heap.size+1<_;omega,hb,w.heap.size,.int .i64 tr.1.1,.slice ad tr.1.2.1.length cap,.slice ad2 tr.2.1.length cap2,rfl,fun j hj=>?_,?_⟩
 . refine ⟨?_,fun h=>h.elim (fun h=>by have:=hlt _ _ h;omega) fun h=>by have h:w.heap.size=w.heap.size+1:=h;omega⟩;have hj:j<3:=hj;rw [Nat.zero_add];refine cj ht ?_
   match j,hj with
   | 0,_=>rfl
   | 1,_=>rfl
   | 2,_=>rfl
 . exact af.mono hst df [.int .i64 tr.1.1,.slice ad tr.1.2.1.length cap,.slice ad2 tr.2.1.length cap2] tr ⟨[.int .i64 tr.1.1,.slice ad tr.1.2.1.length cap],[.slice ad2 tr.2.1.length cap2],rfl,⟨[.int .i64 tr.1.1],[.slice ad tr.1.2.1.length cap],rfl,rfl,⟨[.slice ad tr.1.2.1.length cap],[],rfl,g5,rfl⟩⟩,⟨[.slice ad2 tr.2.1.length cap2],[],rfl,k2,rfl⟩⟩
def kE (v:Value):Nat:=match v with | .func _ _ pc=>(match pc.toList with|Value.pointer (some ad) :: _=>ad.block|_=>0)|_=>0
def kz (nt a b d:Nat) (s:HP.σ) (st:St):Bool×Outs HP :=
 match (get st a).as df with
 | some tr=>(match (get st b).as (.int .i64) with
  | some fr=>((st.length==nt && bL [d] st) && Option.isNone (show Option PS from s),.each fun v=>((some ⟨v,kE v,(show TR from tr),(show Int from fr)⟩:Option PS),st.set d (.d .raw v)))
  | none=>(false,.some []))
 | none=>(false,.some [])
theorem vu {ops:Array Oper} {i a b d nt:Nat} (x0:(ops.toList.map a_)[i]? = some (some d,.call { callee:=.value (.func 66),args := #[.tmp a,.tmp b],argTypes := #[87,3] },none)):dC Tryz.prog HP ops i (kz nt a b d):=by
 intro F M0 w0 n hI hpl Q K s st act w hc h1 hK;obtain ⟨o0,i0,d0,p0,q0⟩:=aB rfl x0;simp only at d0 p0 q0;unfold kz at h1;split at h1;rotate_left
 . cases h1
 rename_i tr ea;split at h1;rotate_left
 . cases h1
 rename_i frD eb;obtain ⟨fr,hfr'⟩:∃ z:Int,z=frD:=⟨_,rfl⟩
 subst hfr';simp only [Bool.and_eq_true,beq_iff_eq] at h1;obtain ⟨⟨hlen,hnb⟩,hs⟩:=h1;have hs:s=(none:Option PS):=Option.isNone_iff_eq_none.1 hs;subst hs;obtain ⟨hfr,M,hG⟩:=id hc;have hg:=hG.2.1;have hra:aw M w df (tm act a) tr:=cO (hg.slot a) ea;have hrb:aw M w (.int .i64) (tm act b) fr:=cO (hg.slot b) eb;have tb:tm act b = .int .i64 fr:=by obtain ⟨cs,e1,e2⟩:=hrb;have e2:cs=[.int .i64 fr]:=e2;rw [e1,e2];rfl
 have hr0:(execOp act.eval o0).run Tryz.prog w = .ok (.enter 66 #[tm act a,.int .i64 fr]) w:=by
  have e0:act.eval (.tmp a)=tm act a:=rfl;have e1:act.eval (.tmp b) = .int .i64 fr:=tb;have e3:=fun args=>dK (P:=Tryz.prog) (g:=66) (by kernel_rfl) args w
  have e4:act.eval (.func 66) = .func (.func 66) #[] #[]:=rfl;simp [execOp,p0,resolve,e0,e1,e4,Deferred.ofValue,invoke,e3]
 refine gz i0 (aC q0) (fun c h=>by rw [p0] at h;cases h) hr0 ((MT hra hg.lt).mono ?_);rintro e w' ⟨p,e1,e2,rfl,hbel,hb1,hb2,hI'⟩;refine ⟨p.v,rfl,?_⟩;rw [d0];obtain ⟨f1,f2⟩:=hG.grow (s':=(some p:Option PS)) (M':=fun b o=>M b o\/b=p.b) (w':=w') ⟨hbel.os,hbel.tape,hbel.output,hbel.size,fun k hk=>hbel.block k hk.1⟩ hI' (fun b o h=>.inr (.inl h)) (fun b o h=>by
  rcases h with h|h
  . exact .inl h
  . subst h;exact .inr ⟨hb1,hb2⟩) (fun b hb=>by
  have hb:b=p.b:=hb;subst hb;exact .inr hb1) fun b hb o=>by
  have hb:b=p.b:=hb;exact .inr hb
 have hnb':au (get st d)=false:=by
  have:=List.all_eq_true.1 hnb d (by simp)
  simpa using this
 obtain ⟨_,bt,c0,c1,c2,hv,_,_⟩:=id hI';have hf:=f2.focus.fin (dst:=some d) (s:=.d .raw p.v) (v:=p.v) (fun d' hd=>by cases hd;exact hnb') rfl ⟨[p.v],rfl,rfl,by rw [hv];rfl,by rw [hv];rfl⟩;have hpb:p.b=kE p.v:=by rw [hv];rfl
 have hmem:(kz nt a b d (none:Option PS) st).2.mem ((some p:Option PS),st.set d (.d .raw p.v)):=by
  unfold kz;rw [ea];dsimp only;rw [eb];refine ⟨p.v,?_⟩;obtain ⟨v,b',tr',fr'⟩:=p;have e1:tr'=tr:=e1;have e2:fr'=fr:=e2;have hpb:b'=kE v:=hpb;subst e1 e2 hpb;rfl
 exact hK _ hmem _ _ ⟨hfr.trans f1,_,f2.unfocus (Fr.refl _ _) hf⟩
theorem RL {p:PS} {M:ai} {w:World} (hI:HP.I (some p) M w) (hM:∀ o,M p.b o) (hp:PathOK p.tr.1 p.fr):Do Tryz.prog (fun b=>b=p.b) p.v (Ty.int .i64) (aF p.tr.1 p.fr) M w:=by
 obtain ⟨hb,bt,c0,c1,c2,hv,hct,hrep⟩:=hI;refine ⟨101,#[],#[.pointer (some ⟨p.b,0,none⟩),.pointer (some ⟨bt,0,none⟩)],hv,by kernel_rfl,?_⟩;intro n l R J Jx W N0 hst hsz hBW hIW hN0 hR hJI hJ hJx hround hJ0;show Calls Tryz.prog 101 #[.func (.yield l) #[] #[],.pointer (some ⟨p.b,0,none⟩),.pointer (some ⟨bt,0,none⟩)] W _;have hbW:W.heap[p.b]? = some (.cells #[.int .i64 p.fr] 3 (0,0)):=(hBW p.b rfl).trans hb;have hpW:p.b<W.heap.size:=(Array.getElem?_eq_some_iff.1 hbW).1;have hst':aL M w (fun b o=>N0 b o\/b=p.b) W:=fun b o v h1 h2=>by
  obtain ⟨g1,g2⟩:=hst b o v h1 h2;exact ⟨g1,fun h=>h.elim g2 fun h=>h2 (h ▸ hM o)⟩
 refine (callsIn_wide (n:=0)).1 (callsIn_of_wp Tryz.func101 LG trivial (wpIn_block (wpIn_loop_rounds (p.fr.toNat+1) ?_)));rw [Tryz.ntmps101];have hat0:=hp.at0;refine Un (tr:=p.tr) (fr:=p.fr) (pb:=p.b) (bt:=bt) (l:=l) (W:=W) (N0:=fun b o=>N0 b o\/b=p.b) (J:=J) (Jx:=Jx) (R:=R) (hct.mono hst') (af.mono hst' _ _ _ hrep) (fun o=>.inr rfl) hpW hJ
  (fun i M1 W1 u y h1 h2 h3=>by
   obtain ⟨fn,tmps,assign,body,q1,q2⟩:=hround i M1 W1 u y h1 h2 h3;exact ⟨fn,tmps,assign,body,q1,q2.1,fun c cs _=>q2.2 c cs (room_wide _)⟩) (fun a W2 hd h=>?_) p.fr.toNat 0 p.fr N0 W _ hp (by omega) rfl hJ0 ⟨hbW,fun b o v h1 h2=>⟨h1,h2⟩⟩ ⟨by simp,rfl,by simp [tm],by simp [tm],by simp [tm]⟩
 show Exit.inBlock 0 (bodyPost Tryz.prog Tryz.f101 _) (.exit 0) a W2;simp only [Exit.inBlock,if_true];refine bodyPost_end (results_none rfl _ _ _) hd ?_;exact ⟨⟨_,rfl⟩,h⟩
def iI (p:PS):Bool := @decide (PathOK p.tr.1 p.fr) (Classical.propDecidable _)
theorem lC {p:PS}:iI p=true<->PathOK p.tr.1 p.fr:=by unfold iI;exact @decide_eq_true_iff _ (Classical.propDecidable _)
def nR (c:Code):Code:=match c with | .rangeFunc _ _ a _=>a|_=>.skip
def nS (c:Code):Code:=match c with | .rangeFunc _ _ _ b=>b|_=>.skip
def HV {ρ:Type} (Φ:Nat->List Spec) (hints:List (Nat×List Nat)) (N:Nat) (p:Nat) (assign body:Code) (k:X->HP.σ->St->Out ρ) (st1:St) (ys:List Int) (st:St):Out ρ :=
 iR (e:=.int .i64) (fun k' s=>bz Tryz.prog Φ hints N assign (some (dW 0 st1)) (fun e s=>match e with | .normal=>bz Tryz.prog Φ hints N body (some (dW 0 st1)) k' s|_=>.fail) s) p st1 (fun x st=>k x (none:Option PS) st) ys st
def nU {ρ:Type} (Φ:Nat->List Spec) (hints:List (Nat×List Nat)) (N:Nat) (q p:Nat) (assign body:Code) (k:X->HP.σ->St->Out ρ) (s:HP.σ) (st:St):Out ρ :=
 match (show Option PS from s) with
 | some ps=>(match get st q with
  | .d .raw v=>bif cK v ps.v && (iI ps && !au (get st p)) then HV Φ hints N p assign body k (st.map dz) (aF ps.tr.1 ps.fr) (st.map dz) else .fail
  | _=>.fail)
 | none=>.fail
theorem AM {Φ:Nat->List Spec} (hΦ:∀ g sp,sp∈Φ g->am Tryz.prog sp) (hints:List (Nat×List Nat)) (N q p:Nat) (assign body:Code) :
 h_ Tryz.prog HP (.rangeFunc (.tmp q) #[p] assign body) (fun {ρ} k s st=>nU Φ hints N q p assign body k s st):=by
 intro ρ fin hf hr F M0 w0 n hI hpl k Q hQ s st a w hc h;have h:nU Φ hints N q p assign body k s st=fin:=h;obtain ⟨s',hs'⟩:∃ z:Option PS,z=s:=⟨_,rfl⟩
 cases s' with
 | none=>subst hs';exact absurd (show Out.fail=fin from h).symm hf
 | some ps =>
 subst hs';unfold nU at h;dsimp only at h;split at h;rotate_left
 . exact absurd h.symm hf
 rename_i vD e1;obtain ⟨v,hvD⟩:∃ z:Value,z=vD:=⟨_,rfl⟩
 subst hvD;cases hcd:(cK v ps.v && (iI ps && !au (get st p))) with
 | false=>rw [hcd] at h;exact absurd h.symm hf
 | true =>
 rw [hcd] at h;simp only [Bool.and_eq_true] at hcd;obtain ⟨hv,hp,hnb⟩:=hcd;have hv:=iA hv;subst hv;have hp:=lC.1 hp;have hnb:au (get st p)=false:=by simpa using hnb
 obtain ⟨hfr,M,hG⟩:=id hc;have hg:=hG.2.1;have hh:=hG.2.2;have tq:a.eval (.tmp q)=ps.v:=by
  have:=hg.slot q;rw [e1] at this;exact fp (show aw M w .raw (tm a q) ps.v from this)
 refine UM (M0:=jI M0 (HP.hb (some ps:Option PS) w) M w) (B:=fun b=>b=ps.b) (F:=F) (F':=fun b=>F b\/HP.hb (some ps:Option PS) w b) (w0:=w0) hints N (ig hΦ mixed hints N hf assign) (ig hΦ mixed hints N hf body)
  (fun b hb=>.inl hb) (fun b hb=>.inr hb) (fun b hb=>(hh b hb).1) (fun b hb o=>.inr hb) (fun b hb=>⟨.cells #[.int .i64 ps.fr] 3 (0,0),(congrArg (fun k=>w.heap[k]?) hb).trans hG.1.1,rfl⟩) hI (fun j=>by
   cases e:M0.pin j with
   | none=>exact e
   | some v=>exact (hpl j v e).elim) (k:=fun x st=>k x (none:Option PS) st) (fun x st' a' w' hfr' hg'' hk=>?_) hfr hG.focus rfl tq (RL hG.1 (hh ps.b rfl).2.1 hp) hnb h hf
 obtain ⟨M',hg'⟩:=hg'';refine hQ x (none:Option PS) st' a' w' ⟨hfr',M',trivial,?_,fun b h=>h.elim⟩ hk;exact ⟨hg'.defers.imp fun D hD=>hD.1,hg'.size,fun b hb=>hg'.room b (.inl hb),hg.base,fun b o hm=>hg'.up b o (.inl hm),hg'.lt,fun b o hF hm=>(hg'.down b o (.inl hF) hm).resolve_right fun hB=>(hh b hB).1 hF,
  hg'.slot,hg'.one,fun i k b ho hF=>hg'.new i k b ho (.inl hF),hg.keep.trans hg'.keep,hg'.pin,hg.dm⟩
def Cp (Φ:Nat->List Spec) (hints:List (Nat×List Nat)) (N N2:Nat) (T:List (List Nat×HdH HP)) (f:Func) (multi own:Bool) (t:Ty) (path:List Nat) (ys:List Int) (st1 st:St):Out (HP.σ×t.den) :=
 jG Tryz.prog HP Φ hints N (fun c T k=>match c with
  | .rangeFunc _ ps assign body=>(match ps.toList with
   | [p]=>HV Φ hints N2 p assign body k st1 ys st
   | _=>.fail)
  | _=>.fail) path (av f) T (qs Tryz.prog HP f.results.toList multi own t)
open Go.RowKit (Below)
section
variable {P : Program} [Inv P] {H : Hole} {Φ : Nat → List Spec} {ρ : Type}
theorem MX (hm:P.follows .mixedOrders=true) (hΦ:∀ g sp,sp∈Φ g->am P sp) {fnn:Nat} {fn:Func} {c:Code} (hfn:P.funcs[fnn]? = some fn) (hb:fn.body=some c) {T:List (List Nat×HdH H)} (hT:bG P H c T) {hints:List (Nat×List Nat)} {N:Nat}
 {res:Ty} {multi own:Bool} {s s':H.σ} {r:res.den} {M:ai} {w:World} {vs:Array Value} (hI:∀ w',Fr (fun k=>k<w.heap.size/\¬ H.hb s w k) w w'->Inv.I P w') (hlt:∀ b o,M b o->b<w.heap.size) (hh:∀ b,H.hb s w b->∀ o,M b o) {st00:St}
 (hst:bH H (fun k=>k<w.heap.size/\¬ H.hb s w k) (kF (H.hb s w) M w) w s st00 { tmps:=vs++Array.replicate (fn.ntmps - vs.size) undef,defers:=[] } w)
 (h:ct P H Φ hints N (av fn) T (qs P H fn.results.toList multi own res) s st00 = .ret (s',r)) :
 Calls P fnn vs w fun e w'=>∃ v,e = .returned v/\Fr (fun k=>k<w.heap.size/\¬ H.hb s w k) w w'/\(∀ b,H.hb s' w' b->H.hb s w b\/w.heap.size<=b) /\
  ∃ M',H.I s' M' w'/\(∀ b o,M b o->H.hb s w b\/M' b o)/\(∀ b o,M' b o->M b o\/(w.heap.size<=b/\b<w'.heap.size))/\(∀ b,H.hb s' w' b->∀ o,M' b o)/\aI M' w' [] ⟨#[],[]⟩ v (bP multi own res r) /\
   ∀ b,bf (bP multi own res r)=true->ag v=some b->w.heap.size<=b\/H.hb s w b:=by
 unfold av at h;rw [hb] at h;refine callsIn_wide.1 (callsIn_of_wp_marks (n:=0) hfn hb trivial (Co hΦ hm hints N (by simp) (by simp) c T hT _ _ _ _ hI (fun j v hj=>by cases hj) _ _ ?_ s _ _ _ hst h));intro e s2 st a w' hc hk;have key:(match dH P fn.results.toList multi own res st with | .ret r=>Out.ret (s2,r)|_=>.fail) = .ret (s',r)->LeavesInM Fence.wide 0 P fn a.tmps (fun e w'=>∃ v,e = .returned v/\Fr (fun k=>k<w.heap.size/\¬ H.hb s w k) w w'/\(∀ b,H.hb s' w' b->H.hb s w b\/w.heap.size<=b) /\
  ∃ M',H.I s' M' w'/\(∀ b o,M b o->H.hb s w b\/M' b o)/\(∀ b o,M' b o->M b o\/(w.heap.size<=b/\b<w'.heap.size))/\(∀ b,H.hb s' w' b->∀ o,M' b o)/\aI M' w' [] ⟨#[],[]⟩ v (bP multi own res r) /\
   ∀ b,bf (bP multi own res r)=true->ag v=some b->w.heap.size<=b\/H.hb s w b) a.defers .returning w':=by
  intro hk;split at hk;rotate_left
  . cases hk
  rename_i r2 hv;cases hk;obtain ⟨hfr,M',hG⟩:=hc;refine gR (M0:=jI (kF (H.hb s w) M w) (H.hb s' w') M' w') (F:=fun b=>(b<w.heap.size/\¬ H.hb s w b)\/H.hb s' w' b) (w0:=w') (st:=st) (by simp) (fun M2 w2 hg2 hf2=>?_) (fun D hD hF=>hF.elim hD.1 hD.2) a.defers M' w' hG.focus (Fr.refl _ _);obtain ⟨r',h1,v,h2,h3,h4⟩:=iS (fn:=fn) hg2 (by simp) hv;cases h1;have hG2:=hG.unfocus hf2 hg2;refine ⟨v,h2,v,rfl,hfr.trans (jQ hf2),fun b hb=>?_,M2,hG2.1,fun b o hM=>?_,fun b o hM=>?_,fun b hb=>(hG2.2.2 b hb).2.1,h3,fun b h5 h6=>?_⟩
  . rcases Nat.lt_or_ge b w.heap.size with h5|h5
    . by_cases h6:H.hb s w b
      . exact .inl h6
      . exact absurd ⟨h5,h6⟩ (hG2.2.2 b hb).1
    . exact .inr h5
  . by_cases h6:H.hb s w b
    . exact .inl h6
    . exact .inr (hG2.2.1.up b o ⟨hM,hlt b o hM,h6⟩)
  . rcases Nat.lt_or_ge b w.heap.size with h5|h5
    . by_cases h6:H.hb s w b
      . exact .inl (hh b h6 o)
      . exact .inl (hG2.2.1.down b o ⟨h5,h6⟩ hM).1
    . exact .inr ⟨h5,hG2.2.1.lt b o hM⟩
  . have h7:=h4 b h5 h6;rcases Nat.lt_or_ge b w.heap.size with h8|h8
    . by_cases h9:H.hb s w b
      . exact .inr h9
      . exact absurd (.inl ⟨h8,h9⟩) h7
    . exact .inl h8
 cases e with
 | normal=>exact key hk
 | ret=>exact key hk
 | exit i=>cases hk
theorem bv.lose {F:Nat->Prop} {M0:Base} {s s':H.σ} {M:ai} {st:St} {a:Act} {w:World} (h:bv H F M0 s M st a w) (hs':∀ w b,¬ H.hb s' w b) (hI':∀ M w,H.I s' M w) {w':World} (hf:Fr (fun k=>k<w.heap.size/\¬ H.hb s w k) w w') :
 ∃ w1,bv H F M0 s' (fun b o=>M b o/\¬ H.hb s w b) st a w1/\w1.heap.size=w.heap.size/\Below w1.heap.size w1 w'/\Fr F w w1:=by
 obtain ⟨hH,hg,hh⟩:=h
 classical
 obtain ⟨w1,hw1⟩:∃ w1:World,w1={ w with heap:=w.heap.mapIdx fun i ob=>if H.hb s w i then (w'.heap[i]?).getD ob else ob }:=⟨_,rfl⟩
 have hsz:w1.heap.size=w.heap.size:=by rw [hw1];simp
 have hin:∀ k,H.hb s w k->w1.heap[k]? = w'.heap[k]? := fun k hk=>by
  have hlt:k<w.heap.size:=H.lt s M w k hH hk;have hlt':k<w'.heap.size:=Nat.lt_of_lt_of_le hlt hf.size;rw [hw1];simp [hk,hlt,hlt']
 have hout:∀ k,¬ H.hb s w k->w1.heap[k]? = w.heap[k]? := fun k hk=>by
  rw [hw1];simp only [Array.getElem?_mapIdx,if_neg hk];cases w.heap[k]? <;> rfl
 have hos:w1.os=w.os/\w1.tape=w.tape/\w1.output=w.output:=by rw [hw1];exact ⟨rfl,rfl,rfl⟩
 have hFn:∀ b,F b->¬ H.hb s w b:=fun b hF hB=>(hh b hB).1 hF
 have hbl:Fr (· < w1.heap.size) w1 w':=by
  refine ⟨hf.os.trans hos.1.symm,hf.tape.trans hos.2.1.symm,hf.output.trans hos.2.2.symm,hsz ▸ hf.size,fun k hk=>?_⟩
  by_cases hB:H.hb s w k
  . exact (hin k hB).symm
  . rw [hout k hB];exact hf.block k ⟨hsz ▸ hk,hB⟩
 refine ⟨w1,⟨hI' _ _,?_,fun b hb=>absurd hb (hs' w1 b)⟩,hsz,hbl.toBelow,⟨hos.1,hos.2.1,hos.2.2,Nat.le_of_eq hsz.symm,fun k hF=>hout k (hFn k hF)⟩⟩;refine hg.world (M':=fun b o=>M b o/\¬ H.hb s w b) (fun b o v hc hm=>⟨?_,fun h=>hm h.1⟩) (Nat.le_of_eq hsz.symm) (fun b o hm=>⟨hg.up b o hm,hFn b (hg.base b o hm)⟩) (fun b o hm=>hsz ▸ hg.lt b o hm.1) (fun b o hF hm=>hg.down b o hF hm.1) (fun D c e=>(hout D fun hB=>H.nd s M w D c hH hB e).trans e) fun i k b ho=>⟨hout b fun hB=>(hh b hB).2.2 i k ho,fun o hm=>⟨hm,fun hB=>(hh b hB).2.2 i k ho⟩⟩
 exact (World.cell?_of_block (a:=⟨b,o,none⟩) (hout b fun hB=>hm ((hh b hB).2.1 o))).trans hc
end
def sX:Code:=match fi [1,0,1,0] (av Tryz.f113) with|some c=>c|none=>.skip
def xz (N:Nat):List (List Nat×HdH HP):=[([1,0,1,0],⟨fun {ρ} k s st=>nU (ah []) [] N 6 7 (nR sX) (nS sX) k s st⟩)]
theorem Lr (N:Nat):bG Tryz.prog HP (av Tryz.f113) (xz N):=bJ (c' := .rangeFunc (.tmp 6) #[7] (nR sX) (nS sX)) (by kernel_rfl) (AM (eK aO) [] N 6 7 _ _) dU
def Jg (v:Value) (acc:List Int):St:=[.nil,.d .raw v,.box [.own (.int .i64) acc false],.und,.d (.list (.int .i64)) [],.und,.d .raw v,.und,.und,.und,.und,.und,.und]
def R96 (N:Nat) (v:Value) (ys acc:List Int):Out (Option PS×List Int):=Cp (ah []) [] N N (xz N) Tryz.f113 false false (.list (.int .i64)) [1,0,1,0] ys (Jg v []) (Jg v acc)
theorem R96_nil (N:Nat) (v:Value) (acc:List Int):R96 N v [] acc = .ret ((none:Option PS),acc):=by kernel_rfl
theorem R96_cons (N:Nat) (v:Value) (y:Int) (ys acc:List Int):R96 N v (y :: ys) acc=(bif bQ acc ([y]:List Int) then R96 N v ys (acc++([y]:List Int)) else .fail):=by kernel_rfl
theorem OP (N:Nat) (ps:PS) (v:Value):ct Tryz.prog HP (ah []) [] N (av Tryz.f113) (xz N) (qs Tryz.prog HP Tryz.f113.results.toList false false (.list (.int .i64))) (some ps:Option PS) [.nil,.d .raw v,.und,.und,.und,.und,.und,.und,.und,.und,.und,.und,.und] =
 (bif cK v ps.v && (iI ps && true) then R96 N v (aF ps.tr.1 ps.fr) [] else .fail):=by kernel_rfl
theorem R96_eq (N:Nat) (v:Value):∀ (ys acc:List Int),acc.length+ys.length<1000000->R96 N v ys acc = .ret ((none:Option PS),acc++ys)
 | [],acc,h=>by rw [R96_nil,List.append_nil]
 | y :: ys,acc,h=>by
  have hf:bQ acc ([y]:List Int)=true:=by unfold bQ;rw [decide_eq_true_eq];simp at h ⊢;omega
  rw [R96_cons,hf,cond_true,R96_eq N v ys _ (by simp at h ⊢;omega),List.append_assoc];rfl
theorem Hn (t:ac):∀ (n:Nat) (f:Int),(iJ t n f).length<=n+1
 | 0,_=>Nat.le_refl _
 | n+1,f=>by
  unfold iJ;split
  . rw [List.length_cons];have:=Hn t n (bC t f.toNat);omega
  . simp
theorem O6 (v:Value):(eM 13 eZ (([]:List Int),(v,()))).set 0 .nil=[.nil,.d .raw v,.und,.und,.und,.und,.und,.und,.und,.und,.und,.und,.und]:=rfl
theorem MV {ps:PS} {M:ai} {w:World} (hI:HP.I (some ps) M w) (hM:∀ o,M ps.b o) (hp:PathOK ps.tr.1 ps.fr) (hlen:ps.tr.1.2.1.length<100000) (hInv:∀ w',Fr (fun k=>k<w.heap.size/\k≠ps.b) w w'->Inv.I Tryz.prog w') (hlt:∀ b o,M b o->b<w.heap.size) :
 Calls Tryz.prog 113 #[.slice none 0 0,ps.v] w fun e w'=>∃ v,e = .returned v/\Fr (fun k=>k<w.heap.size/\k≠ps.b) w w' /\
  ∃ M',(∀ b o,M b o->b=ps.b\/M' b o)/\(∀ b o,M' b o->M b o\/(w.heap.size<=b/\b<w'.heap.size))/\aw M' w' (.list (.int .i64)) v (aF ps.tr.1 ps.fr):=by
 obtain ⟨_,bt,c0,c1,c2,hv,_,_⟩:=id hI;have hh:∀ b,HP.hb (some ps:Option PS) w b->∀ o,M b o:=fun b hb o=>by
  have hb:b=ps.b:=hb;subst hb;exact hM o
 have hraw:aw M w .raw ps.v ps.v:=⟨[ps.v],rfl,rfl,by rw [hv];rfl,by rw [hv];rfl⟩
 have hvs:bN M w eZ (#[Value.slice none 0 0,ps.v]:Array Value).toList (([]:List Int),(ps.v,())):=⟨_,_,rfl,⟨_,rfl,af.list_nil _⟩,_,_,rfl,hraw,rfl⟩
 have hst:=u6 (H:=HP) (n:=Tryz.f113.ntmps) (s:=(some ps:Option PS)) hvs hlt hI hh;obtain ⟨a0,ha0⟩:∃ a0:Act,a0={ tmps := #[Value.slice none 0 0,ps.v]++Array.replicate (Tryz.f113.ntmps - (#[Value.slice none 0 0,ps.v]:Array Value).size) undef,defers:=[] }:=⟨_,rfl⟩
 rw [<- ha0] at hst;have hnt:Tryz.f113.ntmps=13:=Tryz.ntmps113;have h0:tm a0 0=Value.slice none 0 0:=by rw [ha0];simp [tm]
 have hsz:0<a0.tmps.size:=by rw [ha0];simp
 obtain ⟨hfr0,M1,hG0⟩:=hst;have hg2:=hG0.focus.put_plain (d:=0) (s:=.nil) (v:=.slice none 0 0) (by rw [<- hG0.2.1.size];exact hsz) (fun cs h=>by cases h) rfl rfl;rw [<- h0,zZ hsz] at hg2;have hst2:bH HP (fun k=>k<w.heap.size/\¬ HP.hb (some ps:Option PS) w k) (kF (HP.hb (some ps:Option PS) w) M w) w (some ps:Option PS) ((eM Tryz.f113.ntmps eZ (([]:List Int),(ps.v,()))).set 0 .nil) a0 w:=⟨hfr0,M1,hG0.unfocus (Fr.refl _ _) hg2⟩
 have est:(eM Tryz.f113.ntmps eZ (([]:List Int),(ps.v,()))).set 0 .nil=[.nil,.d .raw ps.v,.und,.und,.und,.und,.und,.und,.und,.und,.und,.und,.und]:=by rw [hnt];exact O6 ps.v
 rw [est,ha0] at hst2;have hrun:=OP fuel ps ps.v;rw [fV,lC.2 hp] at hrun;have hl2:(aF ps.tr.1 ps.fr).length<1000000:=by
  have:=Hn ps.tr.1 ps.fr.toNat ps.fr;have h1:=hp.at1;unfold aF;omega
 have hrun:=hrun.trans (R96_eq fuel ps.v (aF ps.tr.1 ps.fr) [] (by simpa using hl2));have h96:=MX (H:=HP) (s:=(some ps:Option PS)) (Φ:=ah []) mixed (eK aO) Tryz.func113 rfl (Lr fuel) (fun w' hw'=>hInv w' ⟨hw'.os,hw'.tape,hw'.output,hw'.size,fun k hk=>hw'.block k ⟨hk.1,hk.2⟩⟩) hlt hh hst2 hrun;refine h96.mono ?_;rintro e w' ⟨u,rfl,hf,_,M',_,h4,h5,_,h7,_⟩;exact ⟨u,rfl,⟨hf.os,hf.tape,hf.output,hf.size,fun k hk=>hf.block k ⟨hk.1,hk.2⟩⟩,M',fun b o hm=>h4 b o hm,h5,h7⟩
set_option maxRecDepth 20000 in
theorem Ng {v0:Value} {w:World} {R:Value->World->Prop} (h96:Calls Tryz.prog 113 #[.slice none 0 0,v0] w fun e w'=>∃ v,e = .returned v/\R v w'):Calls Tryz.prog 82 #[v0] w fun e w'=>∃ v,e = .returned v/\R v w':=by
 go_enter Tryz.func82,Tryz.ntmps82
 go_wp2_with (go_at_call 113;refine h96.mono ?_;rintro e w' ⟨u,rfl,hr⟩)
 simp [bodyPost,results,Tryz.results82,go_sem];exact hr
theorem Nh {ps:PS} {M:ai} {w:World} (hI:HP.I (some ps) M w) (hM:∀ o,M ps.b o) (hp:PathOK ps.tr.1 ps.fr) (hlen:ps.tr.1.2.1.length<100000) (hInv:∀ w',Fr (fun k=>k<w.heap.size/\k≠ps.b) w w'->Inv.I Tryz.prog w') (hlt:∀ b o,M b o->b<w.heap.size) :
 Calls Tryz.prog 82 #[ps.v] w fun e w'=>∃ v,e = .returned v/\Fr (fun k=>k<w.heap.size/\k≠ps.b) w w' /\
  ∃ M',(∀ b o,M b o->b=ps.b\/M' b o)/\(∀ b o,M' b o->M b o\/(w.heap.size<=b/\b<w'.heap.size))/\aw M' w' (.list (.int .i64)) v (aF ps.tr.1 ps.fr):=Ng (MV hI hM hp hlen hInv hlt)
theorem mr (w:World) (b:Nat):¬ HP.hb (none:Option PS) w b:=fun h=>h
theorem mq (M:ai) (w:World):HP.I (none:Option PS) M w:=trivial
def kJ (nt p d:Nat) (s:HP.σ) (st:St):Bool×Outs HP :=
 match (show Option PS from s) with
 | some ps=>(match get st p with
  | .d .raw v=>(((st.length==nt && bL [d] st) && cK v ps.v) && (iI ps && decide (ps.tr.1.2.1.length<100000)),.some [((none:Option PS),st.set d (.d (.list (.int .i64)) (aF ps.tr.1 ps.fr)))])
  | _=>(false,.some []))
 | none=>(false,.some [])
theorem Eo {ops:Array Oper} {i p d nt:Nat} (x0:(ops.toList.map a_)[i]? = some (some d,.call { callee:=.value (.func 82),args := #[.tmp p],argTypes := #[95] },none)):dC Tryz.prog HP ops i (kJ nt p d):=by
 intro F M0 w0 n hI hpl Q K s st act w hc h1 hK;obtain ⟨o0,i0,d0,p0,q0⟩:=aB rfl x0;simp only at d0 p0 q0;obtain ⟨s',hs'⟩:∃ z:Option PS,z=s:=⟨_,rfl⟩
 cases s' with
 | none=>subst hs';exact absurd (show false=true from h1) (by simp)
 | some ps =>
 subst hs';have h1:(kJ nt p d (some ps:Option PS) st).1=true:=h1;unfold kJ at h1;dsimp only at h1;split at h1;rotate_left
 . cases h1
 rename_i vD e1;obtain ⟨v,hvD⟩:∃ z:Value,z=vD:=⟨_,rfl⟩
 subst hvD;simp only [Bool.and_eq_true,beq_iff_eq,decide_eq_true_eq] at h1;obtain ⟨⟨⟨hlen,hnb⟩,hv⟩,hp,hl⟩:=h1;have hv:=iA hv;subst hv;have hp:=lC.1 hp;obtain ⟨hfr,M,hG⟩:=id hc;have hg:=hG.2.1;have hh:=hG.2.2;have tp:tm act p=ps.v:=by
  have:=hg.slot p;rw [e1] at this;exact fp (show aw M w .raw (tm act p) ps.v from this)
 have hr0:(execOp act.eval o0).run Tryz.prog w = .ok (.enter 82 #[ps.v]) w:=by
  have e0:act.eval (.tmp p)=ps.v:=tp;have e3:=fun args=>dK (P:=Tryz.prog) (g:=82) (by kernel_rfl) args w
  have e4:act.eval (.func 82) = .func (.func 82) #[] #[]:=rfl;simp [execOp,p0,resolve,e0,e4,Deferred.ofValue,invoke,e3]
 have hFs:∀ w',Fr (fun k=>k<w.heap.size/\k≠ps.b) w w'->Fr F w w':=fun w' hw=>⟨hw.os,hw.tape,hw.output,hw.size,fun k hk=>hw.block k ⟨hg.room k hk,fun e=>(hh k e).1 hk⟩⟩
 refine gz i0 (aC q0) (fun c h=>by rw [p0] at h;cases h) hr0 ((Nh hG.1 (hh ps.b rfl).2.1 hp hl (fun w' hw=>hI w' (hfr.trans (hFs w' hw))) hg.lt).mono ?_);rintro e w' ⟨u,rfl,hf,M',m1,m2,hrep⟩;refine ⟨u,rfl,?_⟩;rw [d0];have hnb':au (get st d)=false:=by
  have:=List.all_eq_true.1 hnb d (by simp)
  simpa using this
 obtain ⟨w1,g1,hsz,hbel,hfr1⟩:=hG.lose (s':=(none:Option PS)) mr mq (w':=w') ⟨hf.os,hf.tape,hf.output,hf.size,fun k hk=>hf.block k ⟨hk.1,hk.2⟩⟩;have hres:eA (fun b o=>M b o/\¬ HP.hb (some ps:Option PS) w b) w1 w' false false (.list (.int .i64)) u (aF ps.tr.1 ps.fr):=by
  refine ⟨fun b o=>M' b o/\b≠ps.b,fun b o hm=>⟨(m1 b o hm.1).resolve_left hm.2,hm.2⟩,fun b o hm=>?_,?_,fun b h=>by cases h⟩
  . rcases m2 b o hm.1 with h|h
    . exact .inl ⟨h,hm.2⟩
    . exact .inr (by rw [hsz];exact h)
  . exact hrep.mono fun b o v h1 h2=>⟨h1,fun h=>h2 h.1⟩
 obtain ⟨M2,g2⟩:=Good.res (o:=o0) g1.2.1 (by unfold dj;rw [d0];exact hnb') hbel hres;rw [d0] at g2;have hmem:(kJ nt p d (some ps:Option PS) st).2.mem ((none:Option PS),st.set d (.d (.list (.int .i64)) (aF ps.tr.1 ps.fr))):=by
  unfold kJ;dsimp only;rw [e1];exact .head _
 exact hK _ hmem _ _ ⟨hfr.trans (hfr1.trans (Fr.below hbel g1.2.1.room)),M2,mq _ _,g2,fun b h=>(mr _ b h).elim⟩
end Go.V
end
