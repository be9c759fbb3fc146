/- A part of the proof of TopNinesSaid: no condition beyond what each theorem says. -/
import Derived.Test.YtkohflnifdpahaaN14
import Derived.OrdersIn
set_option linter.all false
namespace Go.V
open Go.Proofs
open Go.RowKit (Below)
theorem rep_own {M:Mut} {w:World} {b:Nat} {v:Value} {xs:List Int} (ho:w.ownsRow b 3 1 v xs.length (xs.map (Value.int .i64))) (hM:∀ k o,M k o->k<b):RepV M w (.list (.int .i64)) v xs:=by
  obtain ⟨h1,h⟩:=ho
  rcases h with ⟨rfl,h⟩|⟨g,cap,cur,rfl,hg,hc,hle,hmax,hsz,htk⟩
  . have:xs=[]:=List.eq_nil_of_length_eq_zero h
    subst this
    exact ⟨_,rfl,RepC.list_nil _⟩
  . refine ⟨_,rfl,some ⟨g,0,none⟩,cap,rfl,hle,fun i hi=>⟨g,0,[.int .i64 xs[i]],rfl,rfl,fun j hj=>?_,rfl⟩⟩
    have hj0:j=0:=by simpa using hj
    subst hj0
    have hcu:=row_ints htk hi
    refine ⟨?_,fun hm=>by have:=hM _ _ hm;omega⟩
    have:=cell_of_row w g i cur 3 (0,0) hc
    simp only [Ty.size,Nat.mul_one,Nat.zero_add,Nat.add_zero]
    rw [this,hcu];rfl
noncomputable def r113_2:Array Oper:=regAt 2 (bodyOf Try.f62)
theorem info113_2:r113_2.toList.map opInfo=[(some 17,.load 23 (.tmp 2),none),(some 18,.load 22 (.tmp 3),none),(some 19,.call { callee:=.value (.func 63),args := #[.tmp 18],argTypes := #[22] },none),(some 20,.call { callee:=.value (.tmp 17),args := #[.tmp 19],argTypes := #[22] },none),(some 9,.assign (.tmp 20),none)]:=by kernel_rfl
theorem ready0:Region.ready .any r113_2 #[false,false,false,false,false]=[0,1]:=by kernel_rfl
theorem ready1:Region.ready .any r113_2 #[true,false,false,false,false]=[1]:=by kernel_rfl
theorem ready2:Region.ready .any r113_2 #[true,true,false,false,false]=[2]:=by kernel_rfl
theorem ready3:Region.ready .any r113_2 #[false,true,false,false,false]=[0,2]:=by kernel_rfl
theorem ready4:Region.ready .any r113_2 #[false,true,true,false,false]=[0]:=by kernel_rfl
theorem ready5:Region.ready .any r113_2 #[true,true,true,false,false]=[3]:=by kernel_rfl
theorem ready6:Region.ready .any r113_2 #[true,true,true,true,false]=[4]:=by kernel_rfl
theorem ready7:Region.ready .any r113_2 #[true,true,true,true,true]=[]:=by kernel_rfl
section
variable {a : Act} {w : World} {o : Oper}
theorem ex_loadRawL (ho:o.op = .load 22 (.tmp 3)) {M:Mut} {x:Value} {st:St} (h:SlotOK M w st a (tm a 3) (.ref .raw x)):(execOp a.eval o).run Try.prog w = .ok (.value x) w:=by
  obtain ⟨b,off,cs,e1,e2,e3,e4⟩:=h
  have e5:=e4.1
  subst e5
  have e0:a.eval (.tmp 3) = .pointer (some ⟨b,off,none⟩):=e1
  have hty:tyOf Try.prog 9 22=some (.list (.int .i64)):=by kernel_rfl
  simp [execOp,ho,e0,Instr.loadAt,Instr.sureAddr,run_loadVar hty rfl fun j hj=>(e3 j hj).1]
  rfl
theorem ex_call114 (ho:o.op = .call { callee:=.value (.func 63),args := #[.tmp 18],argTypes := #[22] }) {v:Value} (h1:tm a 18=v):(execOp a.eval o).run Try.prog w = .ok (.enter 63 #[v]) w:=by
  have e1:a.eval (.tmp 18)=v:=h1
  have e3:=fun args=>enters_run (P:=Try.prog) (g:=63) (by kernel_rfl) args w
  have e4:a.eval (.func 63) = .func (.func 63) #[] #[]:=rfl
  simp [execOp,ho,resolve,e1,e4,Deferred.ofValue,invoke,e3]
theorem ex_yield20 (ho:o.op = .call { callee:=.value (.tmp 17),args := #[.tmp 19],argTypes := #[22] }) {l f:Nat} {u:Value} {tmps:Array Value} {assign body:Code} (h0:tm a 17 = .func (.yield l) #[] #[]) (h1:tm a 19=u)
    (hy:(Instr.yield l #[u]).run Try.prog w = .ok (.round l f tmps assign body) w):(execOp a.eval o).run Try.prog w = .ok (.round l f tmps assign body) w:=by
  have e0:a.eval (.tmp 17) = .func (.yield l) #[] #[]:=h0
  have e1:a.eval (.tmp 19)=u:=h1
  simp [execOp,ho,resolve,e0,e1,Deferred.ofValue,invoke,hy]
end
theorem opn_round {P:Program} [Inv P] {n:Nat} {ops:Array Oper} {Q:Exit->Act->World->Prop} {i:Nat} {o:Oper} {a:Act} {w w':World} {K:Act->World->Prop} (hi:ops[i]? = some o) (hw:Region.wanted o (yielded ops a.tmps)=true) (hd:∀ c,o.op ≠ .defer c) {l f:Nat} {tmps:Array Value} {assign body:Code}
    (hr:(execOp a.eval o).run P w = .ok (.round l f tmps assign body) w') (hK:RoundIn Fence.wide 0 P l f tmps assign body w' fun e w2=>∃ v,e = .returned v/\K (a.put o.dst v) w2):wpOpIn (fen none) n P ops Q i K a w:=by
  unfold wpOpIn
  simp only [hi]
  rw [hw,if_pos rfl]
  refine ⟨fun f _=>fen_fn none f,?_⟩
  rw [Oper.semAt_eq _ _ _ fun c e=>absurd e (hd c),hr]
  refine ⟨fun hd=>(by rw [fen_depth] at hd;cases hd),?_⟩
  refine ⟨hK.1,fun c cs _=>?_⟩
  obtain ⟨e,w2,⟨v,rfl,h⟩,hs⟩:=hK.2 c cs (room_wide _)
  exact ⟨.returned v,w2,h,hs⟩
namespace CK
structure G2 (K:CK) (cb:Nat) (now:List Int) (i:Nat) (M1:Mut) (w0:World) (f0 f1 f2:Bool) (a:Act) (w:World):Prop where
  iv:∃ st,K.Iv cb now i M1 st a w/\st.length=80/\get st 2 = .ref .raw K.yv/\get st 3 = .ref .raw K.v
  kp:K.Kp M1 w0 M1 w
  h0:f0=true->tm a 17=K.yv
  h1:f1=true->tm a 18=K.v
  h2:f2=true->RepV M1 w (.list (.int .i64)) (tm a 19) now
variable {K : CK} {cb : Nat} {now : List Int} {i : Nat} {M1 : Mut} {w0 : World} {f0 f1 f2 : Bool} {a : Act} {w : World} {n : Nat} {Q : Exit → Act → World → Prop} {Kc : Act → World → Prop}
theorem g2_0 (h:K.G2 cb now i M1 w0 f0 f1 f2 a w) (hK:∀ a' w',K.G2 cb now i M1 w0 true f1 f2 a' w'->Kc a' w'):wpOpIn (fen none) n Try.prog r113_2 Q 0 Kc a w:=by
  obtain ⟨⟨st,iv,hl,g2,g3⟩,kp,h0,h1,h2⟩:=h
  have hsz:a.tmps.size=80:=iv.size.trans hl
  obtain ⟨o0,i0,d0,p0,q0⟩:=infoAt info113_2 (i:=0) rfl
  simp only at d0 p0 q0
  have s2:=iv.slot 2
  rw [g2] at s2
  refine opn_value i0 (wanted_none q0) (fun c h=>by rw [p0] at h;cases h) (ex_loadRaw (by kernel_rfl) p0 s2) ?_
  rw [d0]
  refine hK _ _ ⟨⟨_,iv.put (d:=17) (s:=.und) (u:=K.yv) (by omega) rfl trivial,by rw [List.length_set];exact hl,by rw [get_setne (by omega)];exact g2,by rw [get_setne (by omega)];exact g3⟩,kp,fun _=>tm_put_same (by omega),fun e=>?_,fun e=>?_⟩
  . rw [tm_put_other (by omega)];exact h1 e
  . rw [tm_put_other (by omega)];exact h2 e
theorem g2_1 (h:K.G2 cb now i M1 w0 f0 f1 f2 a w) (hK:∀ a' w',K.G2 cb now i M1 w0 f0 true f2 a' w'->Kc a' w'):wpOpIn (fen none) n Try.prog r113_2 Q 1 Kc a w:=by
  obtain ⟨⟨st,iv,hl,g2,g3⟩,kp,h0,h1,h2⟩:=h
  have hsz:a.tmps.size=80:=iv.size.trans hl
  obtain ⟨o1,i1,d1,p1,q1⟩:=infoAt info113_2 (i:=1) rfl
  simp only at d1 p1 q1
  have s3:=iv.slot 3
  rw [g3] at s3
  refine opn_value i1 (wanted_none q1) (fun c h=>by rw [p1] at h;cases h) (ex_loadRawL p1 s3) ?_
  rw [d1]
  refine hK _ _ ⟨⟨_,iv.put (d:=18) (s:=.und) (u:=K.v) (by omega) rfl trivial,by rw [List.length_set];exact hl,by rw [get_setne (by omega)];exact g2,by rw [get_setne (by omega)];exact g3⟩,kp,fun e=>?_,fun _=>tm_put_same (by omega),fun e=>?_⟩
  . rw [tm_put_other (by omega)];exact h0 e
  . rw [tm_put_other (by omega)];exact h2 e
theorem g2_2 (hOK:K.OK) (hn:now.length<1000000) (h:K.G2 cb now i M1 w0 f0 true f2 a w) (hK:∀ a' w',K.G2 cb now i M1 w0 f0 true true a' w'->Kc a' w'):wpOpIn (fen none) n Try.prog r113_2 Q 2 Kc a w:=by
  obtain ⟨⟨st,iv,hl,g2,g3⟩,kp,h0,h1,h2⟩:=h
  have hsz:a.tmps.size=80:=iv.size.trans hl
  obtain ⟨o2,i2,d2,p2,q2⟩:=infoAt info113_2 (i:=2) rfl
  simp only at d2 p2 q2
  have hrep:=now_rep iv.at_.now (M:=fun _ _=>False) (fun b o _ h=>h)
  obtain ⟨cs,e1,e2⟩:=hrep
  refine opn_enter i2 (wanted_none q2) (fun c h=>by rw [p2] at h;cases h) (ex_call114 p2 (h1 rfl)) ((clone_calls (list_one e1 e2) hn).mono ?_)
  rintro e w' ⟨v',rfl,ho,hb⟩
  have hf:Fr (K.Fw w) w w':=Fr.below hb fun k hk=>hk.1
  have ha:=iv.at_.go hOK hf (now_keep iv.at_.now fun b hb'=>hb.block b (HNow.lt (K.v,now) M1 w b iv.at_.now hb'))
  have hk:=Kp.fr iv.at_ hf
  refine ⟨_,rfl,?_⟩
  rw [d2]
  refine hK _ _ ⟨⟨_,(iv.step ha hk).put (d:=19) (s:=.und) (u:=v') (by omega) rfl trivial,by rw [List.length_set];exact hl,by rw [get_setne (by omega)];exact g2,by rw [get_setne (by omega)];exact g3⟩,kp.trans hk,fun e=>?_,fun e=>?_,fun e=>?_⟩
  . rw [tm_put_other (by omega)];exact h0 e
  . rw [tm_put_other (by omega)];exact h1 e
  . rw [tm_put_same (by omega)]
    exact rep_own ho fun k o hM=>iv.at_.lt k o hM
theorem kd_round (hK:K.OK) {M2:Mut} {W2:World} (hk:RoundKeeps K.R M1 w M2 W2):K.Kd M1 w W2:=⟨hk.size,fun D c h1 h2=>by
  have hlt:=(Array.getElem?_eq_some_iff.1 h2).1
  exact (hk.same D hlt h1.2 fun hR=>by have:=hK.rlt D hR;have:=h1.1;omega).trans h2⟩
def G9 (K:CK) (cb:Nat) (now:List Int) (i:Nat) (M1:Mut) (w0:World) (a:Act) (w:World):Prop :=
  (tm a 9 = .bool true/\∃ M2 st,K.Iv cb now (i+1) M2 st a w/\st.length=80/\K.Kp M1 w0 M2 w)\/(tm a 9 = .bool false/\K.Jx K.B w/\K.Kd M1 w0 w/\Marks (fun D=>cb<=D) w a.defers/\a.tmps.size=80)
theorem g2_end (hOK:K.OK) (hy:K.ys[i]? = some now) (hQ:∀ a' w',K.G9 cb now i M1 w0 a' w'->Q .normal a' w') (h:K.G2 cb now i M1 w0 true true true a w):wpAnyIn (fen none) n Try.prog .any r113_2 Q 2 #[true,true,true,false,false] a w:=by
  obtain ⟨⟨st,iv,hl,g2,g3⟩,kp,h0,h1,h2⟩:=h
  have hsz:a.tmps.size=80:=iv.size.trans hl
  obtain ⟨o3,i3,d3,p3,q3⟩:=infoAt info113_2 (i:=3) rfl
  obtain ⟨o4,i4,d4,p4,q4⟩:=infoAt info113_2 (i:=4) rfl
  simp only at d3 p3 q3 d4 p4 q4
  obtain ⟨fn,tmps,assign,body,hyr,hround⟩:=hOK.round _ _ _ _ _ iv.at_.j hy (h2 rfl)
  refine ⟨fun h=>(by rw [ready5] at h;cases h),fun j hj=>?_⟩
  rw [ready5] at hj
  simp only [List.mem_singleton] at hj
  subst hj
  refine opn_round i3 (wanted_none q3) (fun c h=>by rw [p3] at h;cases h) (ex_yield20 p3 (h0 rfl) rfl hyr) (hround.mono ?_)
  intro e W2 he
  have last:∀ (u:Value) (a':Act),a'.tmps.size=80->tm a' 20=u->(∀ a2,a2=a'.put (some 9) u->K.G9 cb now i M1 w0 a2 W2)->wpAnyIn (fen none) n Try.prog .any r113_2 Q 1 #[true,true,true,true,false] a' W2:=by
    intro u a' hsz' hu hG
    refine ⟨fun h=>(by rw [ready6] at h;cases h),fun j hj=>?_⟩
    rw [ready6] at hj
    simp only [List.mem_singleton] at hj
    subst hj
    refine opn_value i4 (wanted_none q4) (fun c h=>by rw [p4] at h;cases h) (ex_assign p4) ?_
    rw [d4,hu]
    exact ⟨ready7,hQ _ _ (hG _ rfl)⟩
  rcases he with ⟨rfl,M2,j1,j2,j3⟩|⟨rfl,j1,M2,j2⟩
  . refine ⟨_,rfl,?_⟩
    rw [d3]
    refine last (.bool true) _ (by rw [size_put];exact hsz) (tm_put_same (by omega)) fun a2 e2=>?_
    subst e2
    have hk:=Kp.round hOK iv.at_ j1 j2 j3
    exact .inl ⟨tm_put_same (by rw [size_put];omega),M2,_,((iv.step (iv.at_.round j1 j2 j3).1 hk).put (d:=20) (s:=.und) (u:=.bool true) (by omega) rfl trivial).put (d:=9) (s:=.und) (u:=.bool true) (by rw [List.length_set];omega) rfl trivial,by simp only [List.length_set];exact hl,kp.trans hk⟩
  . refine ⟨_,rfl,?_⟩
    rw [d3]
    refine last (.bool false) _ (by rw [size_put];exact hsz) (tm_put_same (by omega)) fun a2 e2=>?_
    subst e2
    have hkd:=kd_round hOK j2
    exact .inr ⟨tm_put_same (by rw [size_put];omega),j1,kp.kd hkd,by simp only [defers_put];exact Kd.marks hkd iv.marks,by simp only [size_put];exact hsz⟩
theorem r2_wp (hOK:K.OK) {st:St} (h:K.Iv cb now i M1 st a w) (hl:st.length=80) (g2:get st 2 = .ref .raw K.yv) (g3:get st 3 = .ref .raw K.v) (hn:now.length<1000000) (hy:K.ys[i]? = some now)
    (hQ:∀ a' w',K.G9 cb now i M1 w a' w'->Q .normal a' w'):(Code.region 2 r113_2 true).wpIn (fen none) n Try.prog Q a w:=by
  refine wpIn_region_any mixed ?_
  have hsize:r113_2.size=5:=by kernel_rfl
  rw [hsize]
  have hf:Fr (K.Fw w) w { w with drawn:=w.drawn+1 }:=⟨rfl,rfl,rfl,Nat.le_refl _,fun _ _=>rfl⟩
  have ha:=h.at_.go hOK hf (now_keep h.at_.now fun b _=>rfl)
  have hk:=Kp.fr h.at_ hf
  have hs:K.G2 cb now i M1 w false false false a { w with drawn:=w.drawn+1 }:=⟨⟨st,h.step ha hk,hl,g2,g3⟩,hk,fun h=>(by cases h),fun h=>(by cases h),fun h=>(by cases h)⟩
  have fin:∀ a w',K.G2 cb now i M1 w true true true a w'->wpAnyIn (fen none) n Try.prog .any r113_2 Q 2 #[true,true,true,false,false] a w':=fun a w' h=>g2_end hOK hy hQ h
  show wpAnyIn (fen none) n Try.prog .any r113_2 Q 5 #[false,false,false,false,false] a _
  refine ⟨fun h=>(by rw [ready0] at h;cases h),fun j hj=>?_⟩
  rw [ready0] at hj
  simp only [List.mem_cons,List.not_mem_nil,or_false] at hj
  rcases hj with rfl|rfl
  . refine g2_0 hs fun a1 w1 h1=>?_
    show wpAnyIn (fen none) n Try.prog .any r113_2 Q 4 #[true,false,false,false,false] a1 w1
    refine ⟨fun h=>(by rw [ready1] at h;cases h),fun j hj=>?_⟩
    rw [ready1] at hj
    simp only [List.mem_singleton] at hj
    subst hj
    refine g2_1 h1 fun a2 w2 h2=>?_
    show wpAnyIn (fen none) n Try.prog .any r113_2 Q 3 #[true,true,false,false,false] a2 w2
    refine ⟨fun h=>(by rw [ready2] at h;cases h),fun j hj=>?_⟩
    rw [ready2] at hj
    simp only [List.mem_singleton] at hj
    subst hj
    exact g2_2 hOK hn h2 fun a3 w3 h3=>fin a3 w3 h3
  . refine g2_1 hs fun a1 w1 h1=>?_
    show wpAnyIn (fen none) n Try.prog .any r113_2 Q 4 #[false,true,false,false,false] a1 w1
    refine ⟨fun h=>(by rw [ready3] at h;cases h),fun j hj=>?_⟩
    rw [ready3] at hj
    simp only [List.mem_cons,List.not_mem_nil,or_false] at hj
    rcases hj with rfl|rfl
    . refine g2_0 h1 fun a2 w2 h2=>?_
      show wpAnyIn (fen none) n Try.prog .any r113_2 Q 3 #[true,true,false,false,false] a2 w2
      refine ⟨fun h=>(by rw [ready2] at h;cases h),fun j hj=>?_⟩
      rw [ready2] at hj
      simp only [List.mem_singleton] at hj
      subst hj
      exact g2_2 hOK hn h2 fun a3 w3 h3=>fin a3 w3 h3
    . refine g2_2 hOK hn h1 fun a2 w2 h2=>?_
      show wpAnyIn (fen none) n Try.prog .any r113_2 Q 3 #[false,true,true,false,false] a2 w2
      refine ⟨fun h=>(by rw [ready4] at h;cases h),fun j hj=>?_⟩
      rw [ready4] at hj
      simp only [List.mem_singleton] at hj
      subst hj
      exact g2_0 h2 fun a3 w3 h3=>fin a3 w3 h3
end CK
end Go.V
namespace Go.V
open Go.Proofs
open Go.RowKit (Below)
noncomputable def r113_0:Array Oper:=regAt 0 (bodyOf Try.f62)
noncomputable def r113_1:Array Oper:=regAt 1 (bodyOf Try.f62)
noncomputable def r113_3:Array Oper:=regAt 3 (bodyOf Try.f62)
noncomputable def r113_18:Array Oper:=regAt 18 (bodyOf Try.f62)
theorem body113:bodyOf Try.f62 = .seq (.region 0 r113_0 false) (.scope (.seq (.seq (.region 1 r113_1 false) (.cond (.tmp 16) (.seq (.region 2 r113_2 true) .ret) .skip)) (.seq (.label 0) (.seq (.seq (.region 3 r113_3 false) (.block 0 (.loop lb113))) (.seq (.region 18 r113_18 false) .ret))))):=by kernel_rfl
theorem some113:Try.f62.body=some (bodyOf Try.f62):=by kernel_rfl
def sF (row:Int) (left:List Int) (yv v:Value) (lists:LLI) (sh:SHT) (pf:Value):St :=
  [.d (.int .i64) row,.d (.list (.int .i64)) left,.ref .raw yv,.ref .raw v,.ref (.list (.list (.int .i64))) lists,.ref (.prod (.list (.list (.int .i64))) (.prod (.list (.int .i64)) .unit)) sh,.ref .raw pf]++List.replicate 73 .und
abbrev argTy113:Ty:=.prod (.int .i64) (.prod (.list (.int .i64)) (.prod (.ptr .raw) (.prod (.ptr .raw) (.prod (.ptr (.list (.list (.int .i64)))) (.prod (.ptr SHTY) (.prod (.ptr .raw) .unit))))))
section
variable (row : Int) (left : List Int) (yv v : Value) (lists : LLI) (sh : SHT) (pf : Value) (s : NW)
theorem sF_all:((List.range 80).all fun j=>qs (get (sF row left yv v lists sh pf) j))=true:=by kernel_rfl
theorem sF_q (j:Nat):qs (get (sF row left yv v lists sh pf) j)=true:=by
  by_cases hj:j<80
  . exact List.all_eq_true.1 (sF_all row left yv v lists sh pf) j (List.mem_range.2 hj)
  . have hl:(sF row left yv v lists sh pf).length=80:=rfl
    unfold get
    rw [List.getD_eq_getElem?_getD,List.getElem?_eq_none (by rw [hl];omega)]
    rfl
theorem e113_0:vhq Try.prog HNow (phi []) [] 1 (.region 0 r113_0 false) [] (fun x s st=>(.ret (x,s,st):Out (X×NW×St))) s (sF row left yv v lists sh pf) = .ret (.normal,s,(sF row left yv v lists sh pf).set 9 (.d .bool false)):=by kernel_rfl
theorem e113_1:vhq Try.prog HNow (phi []) [] 1 (.region 1 r113_1 false) [] (fun x s st=>(.ret (x,s,st):Out (X×NW×St))) s (sF row left yv v lists sh pf) = .ret (.normal,s,((sF row left yv v lists sh pf).set 15 (.d (.int .i64) row)).set 16 (.d .bool (decide (row<0)))):=by kernel_rfl
def sG (row:Int) (left:List Int) (yv v:Value) (lists:LLI) (sh:SHT) (pf:Value):St :=
  ((((((sF row left yv v lists sh pf).set 21 (.d (.list (.list (.int .i64))) lists)).set 22 (.d (.int .i64) row)).set 23 (.ref (.list (.int .i64)) (List.getD lists row.toNat []))).set 24 (.d (.list (.int .i64)) (List.getD lists row.toNat []))).set 25 (.d (.int .i64) (lenI (List.getD lists row.toNat [])))).set 26 (.d (.int .i64) (0:Int))
theorem e113_3:vhq Try.prog HNow (phi []) [] 1 (.region 3 r113_3 false) [] (fun x s st=>(.ret (x,s,st):Out (X×NW×St))) s (sF row left yv v lists sh pf)=bif inb row lists.length then .ret (.normal,s,sG row left yv v lists sh pf) else .fail:=by kernel_rfl
end
theorem info113_18:r113_18.toList.map opInfo=[(some 9,.assign (.const (.bool true)),none)]:=by kernel_rfl
theorem results113 {a:Act} {w:World}:(results Try.f62 a.tmps).run Try.prog w = .ok (tm a 9) w:=by
  have e:tm a 9=a.tmps[9]?.getD undef:=by unfold tm;simp
  rw [e]
  simp [results,Try.results62,go_sem]
theorem r18_wp {n:Nat} {Q:Exit->Act->World->Prop} {a:Act} {w:World} (hsz:a.tmps.size=80) (hQ:∀ a':Act,a'.defers=a.defers->tm a' 9 = .bool true->Q .ret a' w):(Code.seq (.region 18 r113_18 false) .ret).wpIn (fen none) n Try.prog Q a w:=by
  obtain ⟨o0,i0,d0,p0,q0⟩:=infoAt info113_18 (i:=0) rfl
  simp only at d0 p0 q0
  refine wpIn_seq (wpIn_region ?_)
  have hsize:r113_18.size=1:=by kernel_rfl
  rw [hsize]
  show wpOpsIn (fen none) n Try.prog r113_18 _ [0] a w
  rw [wpOpsIn_cons]
  refine opn_value i0 (wanted_none q0) (fun c h=>by rw [p0] at h;cases h) (ex_assignB p0) ?_
  rw [d0]
  exact wpIn_ret (hQ _ defers_put (tm_put_same (by omega)))
namespace CK
theorem fromN_succ {K:CK} {n:Nat} {row:Int} {left now:List Int}:K.fromN (n+1) row left now=(match decide (row<0) with
    | true=>bif decide (now.length<1000000) then .ret ([now],now) else .fail
    | false=>bif inb row K.lists.length then K.loopN (K.fromN n) row left (K.lists.getD row.toNat []) fuel 0 now else .fail):=rfl
theorem from_ok {K:CK} (hK:K.OK):∀ n,K.RecOK (K.fromN n):=by
  intro n
  induction n with
  | zero=>intro row left now r i M1 w u _ _ h;cases h
  | succ n ih =>
    intro row left now r i M1 w u hat hu hr hys
    have hnb:K.nb<w.heap.size:=HNow.lt (K.v,now) M1 w K.nb hat.now rfl
    have hst:=start (n:=80) (vs := #[.int .i64 row,u,K.p2,K.p3,K.p4,K.p5,K.p6]) (t:=argTy113) (x:=(row,left,K.yv,K.v,K.lists,K.sh,K.pf,())) (M:=K.MB M1) (w:=w) ⟨_,_,rfl,⟨[.int .i64 row],rfl,rfl⟩,_,_,rfl,hu,_,_,rfl,hat.d2,_,_,rfl,hat.d3,_,_,rfl,hat.d4,_,_,rfl,hat.d5,_,_,rfl,hat.d6,rfl⟩ (fun b o h=>h.elim (hat.lt b o) fun e=>e ▸ hnb)
    obtain ⟨a0,ha0⟩:∃ a0:Act,a0={ tmps := #[.int .i64 row,u,K.p2,K.p3,K.p4,K.p5,K.p6]++Array.replicate (80 - 7) undef,defers:=[] }:=⟨_,rfl⟩
    have iv0:K.Iv w.heap.size now i M1 (sF row left K.yv K.v K.lists K.sh K.pf) a0 w:=by
      rw [ha0]
      exact ⟨hat,sF_q _ _ _ _ _ _ _,hst.size,trivial,fun j=>hst.slot j,Nat.le_refl _⟩
    refine callsIn_wide.1 (callsIn_of_wp_marks (n:=0) Try.func62 some113 trivial ?_)
    show (bodyOf Try.f62).wpIn Fence.wide 0 Try.prog _ { tmps := #[.int .i64 row,u,K.p2,K.p3,K.p4,K.p5,K.p6]++Array.replicate (80 - 7) undef,defers:=[] } w
    rw [<- ha0,body113]
    have mkAt:∀ {now' i' M2 w' w2},K.At now' i' M2 w'->K.W.heap.size<=w.heap.size->Mk (fun D=>w.heap.size<=D) w' w2->IterStepB K.B K.W w' w2/\Stable (K.MB M2) w' (K.MB M2) w2:=by
      intro now' i' M2 w' w2 h hle hm
      have hcell:∀ (k:Nat) (ob:Obj),w'.heap[k]? = some ob->ob.isCells=true->w2.heap[k]? = some ob:=fun k ob e1 e2=>(hm.block k ⟨(Array.getElem?_eq_some_iff.1 e1).1,fun _ c e=>by rw [e1] at e;cases e;cases e2⟩).trans e1
      exact ⟨⟨⟨hm.os,hm.tape,hm.output,hm.size,fun k hk=>hm.block k ⟨Nat.lt_of_lt_of_le hk.1 h.size,fun hq=>by have:=hk.1;omega⟩⟩,fun k ob _ e1 e2=>hcell k ob e1 e2⟩,stable_cells hcell⟩
    have endT:∀ (M2:Mut) (a':Act) (w':World),K.At r.2 (i+r.1.length) M2 w'->Marks (fun D=>w.heap.size<=D) w' a'.defers->K.Kp M1 w M2 w'->tm a' 9 = .bool true->LeavesInM Fence.wide 0 Try.prog Try.f62 a'.tmps (K.Post r.2 (i+r.1.length) M1 w) a'.defers .returning w':=by
      intro M2 a' w' hiv hmk hkp h9
      refine leave_marks (q:=fun D=>w.heap.size<=D) (by simp) hmk fun w2 hm=>?_
      obtain ⟨g1,g2⟩:=mkAt hiv hat.size hm
      refine ⟨.bool true,?_,.inl ⟨rfl,M2,?_,?_⟩⟩
      . rw [results113];exact congrArg (fun v=>Result.ok v w2) h9
      . refine hiv.mono (hK.step _ _ _ _ hiv.j g1) hm.size (fun b o h=>Nat.lt_of_lt_of_le (hiv.lt b o h) hm.size) (now_keep hiv.now fun b hb=>?_) g2
        obtain ⟨b',cap,cells,T,⟨e1,_⟩,e2,_⟩:=hiv.now
        rw [e1] at hb
        cases hb
        refine hm.block _ ⟨(Array.getElem?_eq_some_iff.1 e2).1,fun _ c e=>by rw [e2] at e;cases e⟩
      . refine ⟨Nat.le_trans hkp.size hm.size,hkp.stable.trans g2,fun D c h1 h2=>?_⟩
        obtain ⟨h3,h4⟩:=hkp.def_ D c h1 h2
        have hlt:=(Array.getElem?_eq_some_iff.1 h2).1
        exact ⟨(hm.block D ⟨(Array.getElem?_eq_some_iff.1 h3).1,fun hq=>by omega⟩).trans h3,h4⟩
    have endF:∀ (a':Act) (w':World),K.Jx K.B w'->K.Kd M1 w w'->Marks (fun D=>w.heap.size<=D) w' a'.defers->tm a' 9 = .bool false->LeavesInM Fence.wide 0 Try.prog Try.f62 a'.tmps (K.Post r.2 (i+r.1.length) M1 w) a'.defers .returning w':=by
      intro a' w' hj hkd hmk h9
      have hsz:=Nat.le_trans hat.size hkd.1
      refine leave_marks (q:=fun D=>w.heap.size<=D) (by simp) hmk fun w2 hm=>?_
      refine ⟨.bool false,?_,.inr ⟨rfl,?_,?_⟩⟩
      . rw [results113];exact congrArg (fun v=>Result.ok v w2) h9
      . refine hK.stepx _ _ hj ⟨⟨hm.os,hm.tape,hm.output,hm.size,fun k hk=>hm.block k ⟨Nat.lt_of_lt_of_le hk.1 hsz,fun hq=>by have:=hk.1;have:=hat.size;omega⟩⟩,fun k ob _ e1 e2=>(hm.block k ⟨(Array.getElem?_eq_some_iff.1 e1).1,fun _ c e=>by rw [e1] at e;cases e;cases e2⟩).trans e1⟩
      . refine ⟨Nat.le_trans hkd.1 hm.size,fun D c h1 h2=>?_⟩
        have h3:=hkd.2 D c h1 h2
        have hlt:=(Array.getElem?_eq_some_iff.1 h2).1
        exact (hm.block D ⟨(Array.getElem?_eq_some_iff.1 h3).1,fun hq=>by omega⟩).trans h3
    refine wpIn_seq (piece hK iv0 (e113_0 _ _ _ _ _ _ _ _) (get_set_q (sF_q _ _ _ _ _ _ _) 9 rfl) fun a1 w1 h1 k1=>?_)
    have m1:K.Iv w.heap.size now i M1 (sF row left K.yv K.v K.lists K.sh K.pf) a1 w1:=h1.mask (by rw [List.length_set]) (mask_set (fun j=>.inr rfl) rfl)
    refine wpIn_wide.2 (wp_scope_straight ((wpIn_wide (n:=0)).1 ?_))
    refine wpIn_seq (wpIn_seq (piece hK m1 (e113_1 _ _ _ _ _ _ _ _) (get_set_q (get_set_q (sF_q _ _ _ _ _ _ _) 15 rfl) 16 rfl) fun a2 w2 h2 k2=>?_))
    have s16:=h2.slot 16
    rw [get_set _ _ _ _ (by simp only [List.length_set];show 16<80;omega),if_pos rfl] at s16
    have t16:a2.eval (.tmp 16) = .bool (decide (row<0)):=slot_bool s16
    have m2:K.Iv w.heap.size now i M1 (sF row left K.yv K.v K.lists K.sh K.pf) a2 w2:=h2.mask (by simp only [List.length_set]) (mask_set (mask_set (fun j=>.inr rfl) rfl) rfl)
    have k12:=k1.trans k2
    refine wpIn_cond t16 ?_
    have hr:=(fromN_succ (K:=K) (n:=n) (row:=row) (left:=left) (now:=now)).symm.trans hr
    cases hd:decide (row<0) with
    | true =>
      rw [hd] at hr
      dsimp only at hr
      obtain ⟨hn,hr⟩:=bif_ret hr
      subst hr
      refine wpIn_seq (r2_wp hK m2 rfl rfl rfl (by simpa using hn) (hys 0 now rfl) fun a3 w3 h3=>?_)
      refine wpIn_ret ?_
      rcases h3 with ⟨h9,M2,st,iv,hl,kp⟩|⟨h9,hj,hkd,hm,hsz⟩
      . exact endT M2 a3 w3 iv.at_ (iv.marks.imp fun D h=>h.1) (k12.trans kp) h9
      . exact endF a3 w3 hj (k12.kd hkd) hm h9
    | false =>
      rw [hd] at hr
      dsimp only at hr
      refine wpIn_skip ?_
      refine wpIn_seq (wpIn_label ?_)
      cases hb:inb row K.lists.length with
      | false=>rw [hb] at hr;cases hr
      | true =>
      rw [hb] at hr
      have hr:K.loopN (K.fromN n) row left (K.lists.getD row.toNat []) fuel 0 now = .ret r:=hr
      refine wpIn_seq (wpIn_seq (piece hK m2 (st':=sG row left K.yv K.v K.lists K.sh K.pf) ((e113_3 row left K.yv K.v K.lists K.sh K.pf (K.v,now)).trans (by rw [hb];rfl)) ?_ fun a3 w3 h3 k3=>?_))
      . exact get_set_q (get_set_q (get_set_q (get_set_q (get_set_q (get_set_q (sF_q _ _ _ _ _ _ _) 21 rfl) 22 rfl) 23 rfl) 24 rfl) 25 rfl) 26 rfl
      have m3:K.Iv w.heap.size now i M1 (st113 row left K.yv K.v K.lists K.sh K.pf (K.lists.getD row.toNat []) (lenI (K.lists.getD row.toNat [])) 0) a3 w3:=h3.mask rfl fun j=>by
        rcases st113_or (row:=row) (left:=left) (yv:=K.yv) (v:=K.v) (lists:=K.lists) (sh:=K.sh) (pf:=K.pf) (cands:=K.lists.getD row.toNat []) (len:=lenI (K.lists.getD row.toNat [])) (i:=0) j with e|⟨e,_⟩
        . exact .inl e
        . refine .inr ?_
          simp only [keep113,List.mem_cons,List.not_mem_nil,or_false] at e
          rcases e with rfl|rfl|rfl|rfl|rfl|rfl|rfl|rfl|rfl|rfl<;>rfl
      refine wpIn_block (wpIn_loop_rounds fuel (loop113 hK ih fuel 0 now r i M1 a3 w3 m3 hr hys (fun M2 st a4 w4 g1 g2 g3=>?_) (fun a4 w4 g1 g2 g3 g4 g5=>?_)))
      . exact r18_wp (g1.size.trans g2) fun a5 b1 b2=>endT M2 a5 w4 g1.at_ (by rw [b1];exact g1.marks.imp fun D h=>h.1) ((k12.trans k3).trans g3) b2
      . exact endF a4 w4 g1 ((k12.trans k3).kd g2) g3 g5
end CK
end Go.V
namespace Go.V
open Go.Proofs
theorem kp_refl (row:Int) (left:List Int) (yv v:Value) (lists:LLI) (sh:SHT) (pf:Value) (cands:List Int) (len i:Int):kp row left yv v lists sh pf cands len i row left yv v lists sh pf cands len i v=true:=by
  unfold kp
  simp only [same_refl,Bool.and_self]
noncomputable def P113 (row:Int) (sh:SHT) (cands:List Int) (i:Int) (now:List Int):Nat->List Int->Int->Out (Option (List Int)×List Int)
  | 0,_,_=>.fail
  | n_L113s_0+1,rest_3,t39_4 =>
    match (decide (t39_4<(lenI sh.1))) with
    | true =>
      bif (inb t39_4 sh.1.length) then
        bif (inb row (List.getD sh.1 t39_4.toNat ([]:List Int)).length) then
          match ((List.getD (List.getD sh.1 t39_4.toNat ([]:List Int)) row.toNat (0:Int))==(List.getD cands i.toNat (0:Int))) with
          | true =>
            P113 row sh cands i now n_L113s_0 rest_3 (IntKind.i64.wrap (t39_4+(1:Int)))
          | false =>
            bif (inb t39_4 rest_3.length) then
              bif (decide ((t39_4.toNat)<rest_3.length)) then
                bif (inb t39_4 rest_3.length) then
                  bif (decide ((t39_4.toNat)<rest_3.length)) then
                    bif (inb t39_4 (List.set rest_3 (t39_4.toNat) (IntKind.i64.wrap ((List.getD rest_3 (t39_4.toNat) (0:Int)) - (1:Int)))).length) then
                      bif (decide ((t39_4.toNat)<(List.set rest_3 (t39_4.toNat) (IntKind.i64.wrap ((List.getD rest_3 (t39_4.toNat) (0:Int)) - (1:Int)))).length)) then
                        match (decide ((List.getD (List.set rest_3 (t39_4.toNat) (IntKind.i64.wrap ((List.getD rest_3 (t39_4.toNat) (0:Int)) - (1:Int)))) (t39_4.toNat) (0:Int))<(0:Int))) with
                        | true =>
                          .ret (((none:Option (List Int)),((now.set (row).toNat (List.getD cands i.toNat (0:Int))))))
                        | false =>
                          match f115 (((now.set (row).toNat (List.getD cands i.toNat (0:Int)))),(row,())) with
                          | .ret r_5 =>
                            bif (inb row (List.getD sh.1 t39_4.toNat ([]:List Int)).length) then
                              match f116 (r_5,((List.getD (List.getD sh.1 t39_4.toNat ([]:List Int)) row.toNat (0:Int)),())) with
                              | .ret r_7 =>
                                match (r_7==(0:Int)) with
                                | true =>
                                  .ret (((none:Option (List Int)),((now.set (row).toNat (List.getD cands i.toNat (0:Int))))))
                                | false =>
                                  P113 row sh cands i now n_L113s_0 (List.set rest_3 (t39_4.toNat) (IntKind.i64.wrap ((List.getD rest_3 (t39_4.toNat) (0:Int)) - (1:Int)))) (IntKind.i64.wrap (t39_4+(1:Int)))
                              | .pan p_8 =>
                                .fail
                              | .fail=>.fail
                            else .fail
                          | .pan p_6 =>
                            bif (inb row (List.getD sh.1 t39_4.toNat ([]:List Int)).length) then
                              .fail
                            else .fail
                          | .fail=>.fail
                      else .fail
                    else .fail
                  else .fail
                else .fail
              else .fail
            else .fail
        else .fail
      else .fail
    | false =>
      .ret ((some rest_3,((now.set (row).toNat (List.getD cands i.toNat (0:Int))))))
noncomputable def Q113 (row:Int) (left:List Int) (sh:SHT) (cands:List Int) (i:Int) (now:List Int) (N:Nat):Out (Option (List Int)×List Int) :=
  bif (inb i cands.length) then
    bif (inb row now.length) then
      match f114 (left,()) with
      | .ret r_1 =>
        P113 row sh cands i now N r_1 (0:Int)
      | .pan p_2 =>
        .pan p_2
      | .fail=>.fail
    else .fail
  else .fail
theorem l113_plain (N:Nat):∀ (n:Nat) (row:Int) (left:(List Int)) (yv:Value) (v:Value) (lists:(List (List Int))) (sh:((List (List Int))×((List Int)×Unit))) (pf:Value) (cands:(List Int)) (i:Int) (len:Int) (now:(List Int)) (rest_3:(List Int)) (t39_4:Int),L113s_0 N n row left yv v lists sh pf cands i len now rest_3 t39_4=P113 row sh cands i now n rest_3 t39_4:=by
  intro n
  induction n with
  | zero=>intros;rfl
  | succ n ih =>
    intros
    rw [L113s_0_succ]
    simp only [kp_refl,cond_true,f115r,isV_refl,ih]
    rfl
theorem s113_plain (N:Nat) (row:Int) (left:List Int) (yv v:Value) (lists:LLI) (sh:SHT) (pf:Value) (cands:List Int) (len i:Int) (now:List Int):S113 N row left yv v lists sh pf cands len i now=Q113 row left sh cands i now N:=by
  unfold S113 Q113
  simp only [isV_refl,Bool.true_and,l113_plain]
  rfl
noncomputable def loopP (sh:SHT) (rec:Int->List Int->List Int->Out (List (List Int)×List Int)) (row:Int) (left cands:List Int):Nat->Int->List Int->Out (List (List Int)×List Int)
  | 0,_,_=>.fail
  | n+1,i,now=>match decide (i<lenI cands) with
    | false=>.ret ([],now)
    | true=>match Q113 row left sh cands i now fuel with
      | .ret (none,now1)=>loopP sh rec row left cands n (IntKind.i64.wrap (i+1)) now1
      | .ret (some rest,now1)=>(match rec (IntKind.i64.wrap (row - 1)) rest now1 with
        | .ret (ys,now2)=>(match loopP sh rec row left cands n (IntKind.i64.wrap (i+1)) now2 with
          | .ret (zs,now3)=>.ret (ys++zs,now3)
          | _=>.fail)
        | _=>.fail)
      | _=>.fail
noncomputable def fromP (lists:LLI) (sh:SHT):Nat->Int->List Int->List Int->Out (List (List Int)×List Int)
  | 0,_,_,_=>.fail
  | n+1,row,left,now=>match decide (row<0) with
    | true=>bif decide (now.length<1000000) then .ret ([now],now) else .fail
    | false=>bif inb row lists.length then loopP sh (fromP lists sh n) row left (lists.getD row.toNat []) fuel 0 now else .fail
theorem loopN_plain (K:CK) (rec:Int->List Int->List Int->Out (List (List Int)×List Int)) (row:Int) (left cands:List Int):∀ (n:Nat) (i:Int) (now:List Int),K.loopN rec row left cands n i now=loopP K.sh rec row left cands n i now:=by
  intro n
  induction n with
  | zero=>intros;rfl
  | succ n ih =>
    intro i now
    unfold CK.loopN loopP
    rw [s113_plain]
    simp only [ih]
    rfl
theorem fromN_plain (K:CK):∀ (n:Nat),K.fromN n=fromP K.lists K.sh n:=by
  intro n
  induction n with
  | zero=>rfl
  | succ n ih =>
    funext row left now
    refine CK.fromN_succ.trans ?_
    rw [ih]
    simp only [loopN_plain]
    rfl
end Go.V
namespace Go.V
open Go.Proofs
noncomputable def at112 (l:List Nat):Code:=match codeAt l (bodyOf Try.f61) with|some c=>c|none=>.skip
noncomputable def C112:Code:=(.seq (at112 [0]) (.seq (at112 [1,0]) (.seq (at112 [1,1,0]) (.seq (.seq (at112 [1,1,1,0,0]) (at112 [1,1,1,0,1])) (.seq (at112 [1,1,1,1,0]) (at112 [1,1,1,1,1,0]))))))
def st112 (yv:Value) (sh:SHT):St:=[.d .raw yv,.ref SHTY sh]++List.replicate 37 .und
noncomputable def k112 (yv:Value) (sh:SHT) (x:X) (_:Unit) (st:St):Out (Int×List (List Int)×List Int×Unit) :=
  match x with
  | .normal=>(match get st 1,get st 2,get st 3,get st 4,get st 8,get st 9 with
    | .ref (.prod (.list (.list (.int .i64))) (.prod (.list (.int .i64)) .unit)) sh',.box [.d .raw yv'],.d (.int .i64) r,.box [.own (.list (.int .i64)) xs _],.box [.arr (.int .i64) zs _],.box [.d .raw _]=>bif st.length==39 then bif (same yv' yv && same sh' sh) then .ret (r,xs,zs,()) else .fail else .fail
    | _,_,_,_,_,_=>.fail)
  | _=>.fail
noncomputable def specs112s:List Spec:=[sp84]
def hints112s:List (Nat×List Nat):=[(4,[1,2,3,4,15,16])]
noncomputable def r112_5:Array Oper:=regAt 5 (bodyOf Try.f61)
noncomputable def T112s:List (List Nat×HdH H0):=[([1,1,1,0,1,0,0,1,1,0,0,0],⟨fun {ρ} k s st=>regQ Try.prog H0 (fun _=>phi specs112s) hints112s (fun _=>none) 5 r112_5 k s st⟩)]
noncomputable def L112s_0 (N:Nat) (n_L112s_0:Nat) (yv:Value) (sh:SHT) (lists_1:(List (List Int))) (t16_2:Int):Out (Int×List (List Int)×List Int×Unit) :=
  vloopC Try.prog H0 (phi specs112s) hints112s N T112s C112 (k112 yv sh) [1,1,1,0,1,0] n_L112s_0 () [.und,.ref (.prod (.list (.list (.int .i64))) (.prod (.list (.int .i64)) .unit)) sh,.box [.d .raw yv],.d (.int .i64) (lenI (List.getD sh.1 (0:Int).toNat ([]:List Int))),.box [.own (.list (.int .i64)) lists_1 false],.und,.und,.und,.und,.und,.und,.und,.und,.und,.und,.d (.int .i64) (lenI (List.getD sh.1 (0:Int).toNat ([]:List Int))),.d (.int .i64) t16_2,.und,.und,.und,.und,.und,.und,.und,.und,.und,.und,.und,.und,.und,.und,.und,.und,.und,.und,.und,.und,.und,.und]
theorem L112s_0_succ (N:Nat) (n_L112s_0:Nat) (yv:Value) (sh:((List (List Int))×((List Int)×Unit))) (lists_1:(List (List Int))) (t16_2:Int):L112s_0 N  (n_L112s_0+1) yv sh lists_1 t16_2 =
    (
    match (decide (t16_2<(lenI (List.getD sh.1 (0:Int).toNat ([]:List Int))))) with
    | true =>
      match f84 (sh,(t16_2,())) with
      | .ret r_3 =>
        bif (fits lists_1 ([r_3.1]:List (List Int))) then
          L112s_0 N n_L112s_0 yv sh (lists_1++([r_3.1]:List (List Int))) (IntKind.i64.wrap (t16_2+(1:Int)))
        else .fail
      | .pan p_4 =>
        .pan p_4
      | .fail=>.fail
    | false =>
      bif (mayMake (lenI (List.getD sh.1 (0:Int).toNat ([]:List Int)))) then
        bif ((same yv yv && same sh sh)) then
          .ret ((lenI (List.getD sh.1 (0:Int).toNat ([]:List Int))),(lists_1,((zeros (.int .i64) (lenI (List.getD sh.1 (0:Int).toNat ([]:List Int))):List Int),())))
        else .fail
      else .fail:Out (Int×List (List Int)×List Int×Unit)):=by
  kernel_rfl
noncomputable def S112 (N:Nat) (yv:Value) (sh:SHT):Out (Int×List (List Int)×List Int×Unit) :=
  bif (inb (0:Int) sh.1.length) then
    L112s_0 N N yv sh ([]:List (List Int)) (0:Int)
  else .fail
theorem s112 (N:Nat) (yv:Value) (sh:SHT):vhq Try.prog H0 (phi specs112s) hints112s N C112 T112s (k112 yv sh) () (st112 yv sh)=S112 N yv sh:=by
  kernel_rfl
end Go.V
namespace Go.V
open Go.Proofs
section
variable {P : Program} [Inv P] {H : Hole} {Φ : Nat → List Spec} {ρ : Type}
theorem vhq_nil {hints:List (Nat×List Nat)} {N:Nat} (c:Code) {k:X->H.σ->St->Out ρ} {s:H.σ} {st:St}:vhq P H Φ hints N c [] k s st=vexec P Φ hints N c none (fun x st=>k x s st) st:=by
  cases c<;>rfl
theorem chain_seq0 (hΦ:∀ g sp,sp∈Φ g->Contract P sp) (hm:P.follows .mixedOrders=true) (hints:List (Nat×List Nat)) (N:Nat) {fin:Out ρ} (hf:fin ≠ .fail) (hr:∀ p,fin ≠ .pan p) {c1 c2 c3:Code}
    {F:Nat->Prop} {M0:Base} {w0:World} {n:Nat} (hI:∀ w,Fr F w0 w->Inv.I P w) (hpl:∀ j v,M0.pin j=some v->False) {k:X->H.σ->St->Out ρ} {Q:Exit->Act->World->Prop}
    (hQ:∀ x s st a w,x ≠ .normal->ConcH H F M0 w0 s st a w->k x s st=fin->Q x.exit' a w) (hnext:∀ s st a w,ConcH H F M0 w0 s st a w->vhq P H Φ hints N c2 [] k s st=fin->c3.wpIn (fen none) n P Q a w)
    {s:H.σ} {st:St} {a:Act} {w:World} (hc:ConcH H F M0 w0 s st a w) (h:vhq P H Φ hints N (.seq c1 c2) [] k s st=fin):(Code.seq c1 c3).wpIn (fen none) n P Q a w:=by
  obtain ⟨N0,hpn,hcl,hback⟩:=hc.lift
  rw [vhq_nil] at h
  unfold vexec at h
  refine wpIn_seq (code_ok hΦ hm hints N hf c1 _ _ w none none n (fun _=>rfl) (hc.inv hI) (fun j v hj=>(hpl j v (hpn j v hj)).elim) _ _ (fun _ p q hp=>absurd hp (hr p)) ?_ st a w hcl h)
  intro x st a w hc hx
  cases x with
  | normal=>exact hnext s st a w (hback _ _ _ hc) (by rw [vhq_nil];exact hx)
  | exit i=>exact hQ (.exit i) s st a w (by simp) (hback _ _ _ hc) hx
  | ret=>exact hQ .ret s st a w (by simp) (hback _ _ _ hc) hx
end
theorem body112:bodyOf Try.f61 = .seq (at112 [0]) (.seq (at112 [1,0]) (.seq (at112 [1,1,0]) (.seq (.seq (at112 [1,1,1,0,0]) (at112 [1,1,1,0,1])) (.seq (at112 [1,1,1,1,0]) (.seq (at112 [1,1,1,1,1,0]) (at112 [1,1,1,1,1,1])))))):=by kernel_rfl
theorem allQ112s:AllQ Try.prog H0 C112 T112s:=allQ_cons (c' := .region 5 r112_5 false) (by kernel_rfl) (regQ_ok (fun s g sp hs=>.inl (by
    have h:=(List.mem_filter.1 hs).1
    simp only [specs112s,List.mem_cons,List.not_mem_nil,or_false] at h
    subst h
    exact c84)) hints112s (fun _ _ h=>by cases h)) allQ_nil
theorem all112s:∀ sp∈specs112s,Contract Try.prog sp:=fun sp hs=>by
  simp only [specs112s,List.mem_cons,List.not_mem_nil,or_false] at hs
  subst hs
  exact c84
def End112 (yv:Value) (sh:SHT) (r:Int) (lists:LLI) (zs:List Int) (st:St):Prop :=
  st.length=39/\get st 1 = .ref (.prod (.list (.list (.int .i64))) (.prod (.list (.int .i64)) .unit)) sh/\get st 2 = .box [.d .raw yv]/\get st 3 = .d (.int .i64) r/\(∃ f,get st 4 = .box [.own (.list (.int .i64)) lists f])/\(∃ f,get st 8 = .box [.arr (.int .i64) zs f])/\∃ v,get st 9 = .box [.d .raw v]
theorem k112_end {yv:Value} {sh:SHT} {x:X} {s:Unit} {st:St} {r:Int} {lists:LLI} {zs:List Int} (h:k112 yv sh x s st = .ret (r,lists,zs,())):x = .normal/\End112 yv sh r lists zs st:=by
  unfold k112 at h
  split at h
  rotate_left
  . cases h
  split at h
  rotate_left
  . cases h
  rename_i sh' yv' r' xs f zs' f' v' e1 e2 e3 e4 e8 e9
  cases hl:st.length==39 with
  | false=>rw [hl] at h;cases h
  | true =>
  rw [hl] at h
  dsimp only [cond_true] at h
  cases hk:same yv' yv && same sh' sh with
  | false=>rw [hk] at h;cases h
  | true =>
  rw [hk] at h
  rw [Bool.and_eq_true] at hk
  have h1:=same_eq hk.1
  have h2:=same_eq hk.2
  subst h1
  subst h2
  cases h
  exact ⟨rfl,by simpa using hl,e1,e2,e3,⟨_,e4⟩,⟨_,e8⟩,⟨_,e9⟩⟩
theorem seg112_wp {yv:Value} {sh:SHT} {r:Int} {lists:LLI} {zs:List Int} (N:Nat) (h:S112 N yv sh = .ret (r,lists,zs,())) {F:Nat->Prop} {M0:Base} {w0:World} {n:Nat} (hI:∀ w,Fr F w0 w->Inv.I Try.prog w) (hpl:∀ j v,M0.pin j=some v->False) {Q:Exit->Act->World->Prop} {a:Act} {w:World}
    (hc:ConcH H0 F M0 w0 () (st112 yv sh) a w) (hN:∀ st a' w',ConcH H0 F M0 w0 () st a' w'->End112 yv sh r lists zs st->(at112 [1,1,1,1,1,1]).wpIn (fen none) n Try.prog Q a' w'):(bodyOf Try.f61).wpIn (fen none) n Try.prog Q a w:=by
  have h0:=(s112 N yv sh).trans h
  have hf:(Out.ret (r,lists,zs,())) ≠ .fail:=by simp
  have hr:∀ p,(Out.ret (r,lists,zs,())) ≠ .pan p:=by simp
  have hQ:∀ (x:X) (s:H0.σ) (st:St) (a':Act) (w':World),x ≠ .normal->ConcH H0 F M0 w0 s st a' w'->k112 yv sh x s st = .ret (r,lists,zs,())->Q x.exit' a' w':=fun x s st a' w' hx _ hk=>absurd (k112_end hk).1 hx
  rw [body112]
  have hT:=allQ112s
  unfold C112 at h0 hT
  refine chain_seq (phi_ok all112s) mixed hints112s N hf hr hT (by unfold T112s;simp) (by kernel_rfl) hI hpl hQ (fun s st a w hc h=>?_) hc h0
  refine chain_seq (phi_ok all112s) mixed hints112s N hf hr hT.seq.2 (by unfold T112s;simp [subL]) (by kernel_rfl) hI hpl hQ (fun s st a w hc h=>?_) hc h
  refine chain_seq (phi_ok all112s) mixed hints112s N hf hr hT.seq.2.seq.2 (by unfold T112s;simp [subL]) (by kernel_rfl) hI hpl hQ (fun s st a w hc h=>?_) hc h
  refine chain_seq (phi_ok all112s) mixed hints112s N hf hr hT.seq.2.seq.2.seq.2 (by unfold T112s;simp [subL]) (by kernel_rfl) hI hpl hQ (fun s st a w hc h=>?_) hc h
  refine chain_seq0 (phi_ok all112s) mixed hints112s N hf hr hI hpl hQ (fun s st a w hc h=>?_) hc h
  refine wpIn_seq (vhq_ok (phi_ok all112s) mixed hints112s N hf hr _ _ allQ_nil F M0 w0 n hI hpl _ _ ?_ s st a w hc h)
  intro x s st a w hc hx
  obtain ⟨rfl,he⟩:=k112_end hx
  exact hN st a w hc he
end Go.V
namespace Go.V
open Go.Proofs
open Go.RowKit (Below)
noncomputable def r112_11:Array Oper:=regAt 11 (bodyOf Try.f61)
noncomputable def r112_12:Array Oper:=regAt 12 (bodyOf Try.f61)
theorem tail112_eq:at112 [1,1,1,1,1,1] = .seq (.region 11 r112_11 false) (.region 12 r112_12 false):=by kernel_rfl
theorem info112_11:r112_11.toList.map opInfo=[(some 32,.makeFunc (.func 62) #[] #[.tmp 2,.tmp 8,.tmp 4,.tmp 1,.tmp 9],none),(none,.store 107 (.tmp 9) (.tmp 32),none)]:=by kernel_rfl
theorem info112_12:r112_12.toList.map opInfo=[(some 33,.load 107 (.tmp 9),none),(some 34,.move (.tmp 3),none),(some 35,.binOp .sub 3 (.tmp 34) (.const (.int .i64 1)) 3,none),(some 36,.fieldAddr 42 (.tmp 1) 1,none),(some 37,.load 22 (.tmp 36),none),(some 38,.call { callee:=.value (.tmp 33),args := #[.tmp 35,.tmp 37],argTypes := #[3,22] },none)]:=by kernel_rfl
section
variable {a : Act} {w : World} {o : Oper}
theorem ex_make113 (ho:o.op = .makeFunc (.func 62) #[] #[.tmp 2,.tmp 8,.tmp 4,.tmp 1,.tmp 9]):(execOp a.eval o).run Try.prog w = .ok (.value (.func (.func 62) #[] #[tm a 2,tm a 8,tm a 4,tm a 1,tm a 9])) w:=by
  have e:∀ j,a.eval (.tmp j)=tm a j:=fun _=>rfl
  simp only [execOp,ho,List.map_toArray,List.map_cons,List.map_nil,e]
  simp [go_sem,Instr.makeFunc]
theorem ex_store149 (ho:o.op = .store 107 (.tmp 9) (.tmp 32)) {b:Nat} {v u:Value} {E:Nat} (ht:tm a 9 = .pointer (some ⟨b,0,none⟩)) (hq:tm a 32=u) (hu:u.oneCell'=true) (huc:u.cells = #[u]) (hh:w.heap[b]? = some (.cells #[v] E (0,0))):(execOp a.eval o).run Try.prog w = .ok .skip (w.setRow b #[u]) :=
  ex_storeAt (t:=.raw) (by kernel_rfl) rfl ho (j:=0) ht hq hu huc hh (by simp)
theorem ex_call113 (ho:o.op = .call { callee:=.value (.tmp 33),args := #[.tmp 35,.tmp 37],argTypes := #[3,22] }) {u v:Value} {pc:Array Value} (h0:tm a 33 = .func (.func 62) #[] pc) (h1:tm a 35=u) (h2:tm a 37=v):(execOp a.eval o).run Try.prog w = .ok (.enter 62 (#[] ++ #[u,v]++pc)) w:=by
  have e0:a.eval (.tmp 33) = .func (.func 62) #[] pc:=h0
  have e1:a.eval (.tmp 35)=u:=h1
  have e2:a.eval (.tmp 37)=v:=h2
  have e3:=fun args=>enters_run (P:=Try.prog) (g:=62) (by kernel_rfl) args w
  simp [execOp,ho,resolve,e0,e1,e2,Deferred.ofValue,invoke,e3]
end
end Go.V
namespace Go.V
open Go.Proofs
open Go.RowKit (Below)
theorem some112:Try.f61.body=some (bodyOf Try.f61):=by kernel_rfl
theorem results112 {a:Act} {w:World}:(results Try.f61 a.tmps).run Try.prog w = .ok (.tuple #[]) w:=by
  simp [results,Try.results61,go_sem]
theorem start112 {yv ps:Value} {sh:SHT} {N0:Mut} {W:World} (hy:yv.cells = #[yv]/\yv.oneCell'=true) (hp:RepV N0 W (.ptr SHTY) ps sh) (hlt:∀ b o,N0 b o->b<W.heap.size) :
    ConcH H0 (· < W.heap.size) (base0 N0 W) W () (st112 yv sh) { tmps := #[yv,ps]++Array.replicate (39 - 2) undef,defers:=[] } W:=by
  have hst:=start (n:=39) (vs := #[yv,ps]) (t:=.prod .raw (.prod (.ptr SHTY) .unit)) (x:=(yv,sh,())) (M:=N0) (w:=W) ⟨_,_,rfl,⟨[yv],rfl,rfl,hy.1,hy.2⟩,_,_,rfl,hp,rfl⟩ hlt
  exact ⟨Fr.refl _ _,N0,trivial,hst,fun b hb=>hb.elim⟩
theorem box_one {M:Mut} {w:World} {st:St} {a:Act} {v:Value} {c:C} (h:SlotOK M w st a v (.box [c])):∃ b T u,v = .pointer (some ⟨b,0,none⟩)/\w.heap[b]? = some (.cells #[u] T (0,0))/\(∀ o,M b o)/\CellOK M w u c:=by
  obtain ⟨b,T,cells,h1,h2,h3,h4,h5⟩:=h
  have hs:cells.size=1:=h3
  obtain ⟨u,rfl⟩:∃ u,cells = #[u]:=by
    obtain ⟨l⟩:=cells
    match l,hs with
    | [u],_=>exact ⟨u,rfl⟩
  exact ⟨b,T,u,h1,h2,h4,h5 0 c u rfl rfl⟩
theorem ptr_raw {M:Mut} {w:World} {b:Nat} {T:TypeId} {u:Value} (hh:w.heap[b]? = some (.cells #[u] T (0,0))) (hM:∀ o,¬ M b o) (hu:u.cells = #[u]/\u.oneCell'=true):RepV M w (.ptr .raw) (.pointer (some ⟨b,0,none⟩)) u:=by
  refine ⟨[.pointer (some ⟨b,0,none⟩)],rfl,b,0,[u],rfl,rfl,fun j hj=>?_,rfl,hu.1,hu.2⟩
  have hj:j=0:=by simpa using hj
  subst hj
  refine ⟨?_,hM _⟩
  rw [cell_of_row w b (0+0) #[u] T (0,0) hh]
  rfl
structure E112 (W:World) (N0:Mut) (yv:Value) (sh:SHT) (r:Int) (lists:LLI) (zs:List Int) (a:Act) (w:World) (b2 b4 b8 b9 nb cap:Nat):Prop where
  fr:Fr (· < W.heap.size) W w
  sz:a.tmps.size=39
  t1:RepV (fun b o=>N0 b o\/b=nb\/b=b9) w (.ptr SHTY) (tm a 1) sh
  d4:RepV (fun b o=>N0 b o\/b=nb\/b=b9) w (.ptr (.list (.list (.int .i64)))) (tm a 4) lists
  t2:tm a 2 = .pointer (some ⟨b2,0,none⟩)
  t3:tm a 3 = .int .i64 r
  t4:tm a 4 = .pointer (some ⟨b4,0,none⟩)
  t8:tm a 8 = .pointer (some ⟨b8,0,none⟩)
  t9:tm a 9 = .pointer (some ⟨b9,0,none⟩)
  h2:∃ T,w.heap[b2]? = some (.cells #[yv] T (0,0))
  h8:∃ T,w.heap[b8]? = some (.cells #[.slice (some ⟨nb,0,none⟩) zs.length cap] T (0,0))
  h9:∃ T u,w.heap[b9]? = some (.cells #[u] T (0,0))
  hn:NowAt (.slice (some ⟨nb,0,none⟩) zs.length cap,zs) w
  ge:W.heap.size<=b2/\W.heap.size<=b4/\W.heap.size<=b8/\W.heap.size<=b9/\W.heap.size<=nb
  ne:b9≠b2/\b9≠b4/\b9≠b8/\b9≠nb/\nb≠b2/\nb≠b4/\nb≠b8
  marks:Marks (fun D=>W.heap.size<=D) w a.defers
theorem e112 {W:World} {N0:Mut} {yv:Value} {sh:SHT} {r:Int} {lists:LLI} {zs:List Int} {st:St} {a:Act} {w:World} (hc:ConcH H0 (· < W.heap.size) (base0 N0 W) W () st a w) (he:End112 yv sh r lists zs st) (hz:zs≠[]) (hlt:∀ b o,N0 b o->b<W.heap.size) :
    ∃ b2 b4 b8 b9 nb cap,E112 W N0 yv sh r lists zs a w b2 b4 b8 b9 nb cap:=by
  obtain ⟨hf,M,_,hg,_⟩:=hc
  obtain ⟨hl,e1,e2,e3,⟨f4,e4⟩,⟨f8,e8⟩,v9,e9⟩:=he
  have s1:=hg.slot 1
  rw [e1] at s1
  have s2:=hg.slot 2
  rw [e2] at s2
  have s3:=hg.slot 3
  rw [e3] at s3
  have s4:=hg.slot 4
  rw [e4] at s4
  have s8:=hg.slot 8
  rw [e8] at s8
  have s9:=hg.slot 9
  rw [e9] at s9
  obtain ⟨b2,T2,u2,p2,q2,m2,c2⟩:=box_one s2
  obtain ⟨b4,T4,u4,p4,q4,m4,c4⟩:=box_one s4
  obtain ⟨b8,T8,u8,p8,q8,m8,c8⟩:=box_one s8
  obtain ⟨b9,T9,u9,p9,q9,m9,c9⟩:=box_one s9
  have hu2:u2=yv:=by
    have h:[u2]=[yv]/\_:=c2
    exact List.head_eq_of_cons_eq h.1
  subst hu2
  have c8:ArrAt M w (.int .i64) u8 zs:=c8
  rcases c8 with ⟨_,h⟩|⟨nb,cap,cells,T,rfl,hh,h1,_,h2,hM,h3⟩
  . exact absurd h hz
  have o2:owns st a w 2 none b2:=⟨by rw [e2];rfl,by rw [p2];rfl⟩
  have o4:owns st a w 4 none b4:=⟨by rw [e4];rfl,by rw [p4];rfl⟩
  have o8:owns st a w 8 none b8:=⟨by rw [e8];rfl,by rw [p8];rfl⟩
  have o9:owns st a w 9 none b9:=⟨by rw [e9];rfl,by rw [p9];rfl⟩
  have on:owns st a w 8 (some 0) nb:=⟨_,_,b8,_,e8,rfl,rfl,by rw [p8];rfl,(cell_of_row w b8 0 _ T8 (0,0) q8).trans rfl,rfl⟩
  have ge:∀ {i k b},owns st a w i k b->W.heap.size<=b:=fun ho=>Nat.le_of_not_lt (hg.new _ _ _ ho)
  have ne:∀ {i k b j l b'},owns st a w i k b->owns st a w j l b'->(i=j/\k=l->False)->b≠b':=fun h1 h2 h3 e=>h3 (hg.one _ _ _ _ _ h1 (e ▸ h2))
  have hst:Stable M w (fun b o=>N0 b o\/b=nb\/b=b9) w:=fun b o v e hM'=>⟨e,fun h=>hM' (h.elim (hg.up b o) fun h=>h.elim (fun e=>e ▸ hM o) fun e=>e ▸ m9 o)⟩
  refine ⟨b2,b4,b8,b9,nb,cap,hf,hg.size.trans hl,?_,?_,p2,slot_int s3,p4,p8,p9,⟨_,q2⟩,⟨_,q8⟩,⟨_,_,q9⟩,⟨nb,cap,cells,T,⟨rfl,h1⟩,hh,fun i x hx=>?_⟩,⟨ge o2,ge o4,ge o8,ge o9,ge on⟩,⟨ne o9 o2 (by simp),ne o9 o4 (by simp),ne o9 o8 (by simp),ne o9 on (by simp),ne on o2 (by simp),ne on o4 (by simp),ne on o8 (by simp)⟩,hg.defers.imp fun D hD=>hD⟩
  . obtain ⟨b,o,cs,g1,g2,g3,g4⟩:=s1
    exact ⟨[.pointer (some ⟨b,o,none⟩)],g1,b,o,cs,rfl,g2,g3.mono hst,RepC.mono hst _ _ _ g4⟩
  . rw [p4]
    refine ⟨[.pointer (some ⟨b4,0,none⟩)],rfl,b4,0,[u4],rfl,rfl,fun j hj=>?_,RepC.mono hst _ _ _ c4.1⟩
    have hj:j=0:=by simpa using hj
    subst hj
    refine ⟨(cell_of_row w b4 (0+0) #[u4] T4 (0,0) q4).trans rfl,fun h=>?_⟩
    rcases h with h|h|h
    . have h1:=hlt _ _ h
      have h2:=ge o4
      omega
    . exact ne on o4 (by simp) h.symm
    . exact ne o9 o4 (by simp) h.symm
  . have hx:zs[i]? = some x:=hx
    obtain ⟨hi,hxe⟩:=List.getElem?_eq_some_iff.1 hx
    have h4:(cells.toList.drop (i * 1)).take 1=[.int .i64 zs[i]]:=h3 i hi
    rw [Nat.mul_one,hxe] at h4
    have h5:(cells.toList.drop i)[0]? = some (.int .i64 x):=by
      have:=congrArg (·[0]?) h4
      simpa [List.getElem?_take] using this
    rw [List.getElem?_drop,Nat.add_zero,Array.getElem?_toList] at h5
    exact h5
theorem E112.at_ {K:CK} {N0:Mut} {r:Int} {zs:List Int} {a:Act} {w:World} {b2 b4 b8 b9:Nat} (h:E112 K.W N0 K.yv K.sh r K.lists zs a w b2 b4 b8 b9 K.nb K.cap) (hp2:K.p2=tm a 2) (hp3:K.p3=tm a 8) (hp4:K.p4=tm a 4) (hp5:K.p5=tm a 1) (hp6:K.p6=tm a 9) (hrows:K.rows=zs.length)
    (hlt:∀ b o,N0 b o->b<K.W.heap.size) (hJ0:∀ (B:Nat->Prop) W',IterStepB (fun _=>False) K.W K.W W'->(∀ b,B b->K.W.heap.size<=b/\∃ ob:Obj,W'.heap[b]? = some ob/\ob.isCells=true)->K.J B 0 (fun b o=>N0 b o\/B b) W') :
    K.At zs 0 (fun b o=>N0 b o\/K.B b) (w.setRow b9 #[K.pf]):=by
  obtain ⟨fr,sz,t1,d4,t2,t3,t4,t8,t9,⟨T2,h2⟩,⟨T8,h8⟩,⟨T9,u9,h9⟩,hn,⟨ge2,ge4,ge8,ge9,gen⟩,⟨ne1,ne2,ne3,ne4,ne5,ne6,ne7⟩,hm⟩:=h
  have hoth:∀ k,k≠b9->(w.setRow b9 #[K.pf]).heap[k]? = w.heap[k]? := fun k hk=>setRow_other hk
  have hv:K.v = .slice (some ⟨K.nb,0,none⟩) zs.length K.cap:=by unfold CK.v;rw [hrows]
  have hnow:NowAt (K.v,zs) (w.setRow b9 #[K.pf]):=by
    rw [hv]
    exact now_keep hn fun b hb=>hoth b fun e=>by cases hb;exact ne4 e.symm
  have hnbc:∃ ob:Obj,(w.setRow b9 #[K.pf]).heap[K.nb]? = some ob/\ob.isCells=true:=by
    obtain ⟨b,cap,cells,T,⟨e1,_⟩,e2,_⟩:=hnow
    rw [hv] at e1
    cases e1
    exact ⟨_,e2,rfl⟩
  have hst:Stable (fun b o=>N0 b o\/b=K.nb\/b=b9) w (K.MB fun b o=>N0 b o\/K.B b) (w.setRow b9 #[K.pf]):=fun b o v e hM=>by
    refine ⟨(World.cell?_of_block (a:=⟨b,o,none⟩) (hoth b fun e=>hM (.inr (.inr e)))).trans e,fun h=>hM ?_⟩
    rcases h with (h|h)|h
    . exact .inl h
    . exact .inr (.inl h)
    . exact .inr (.inl h)
  have hno:∀ b,K.W.heap.size<=b->b≠K.nb->∀ o,¬ K.MB (fun b o=>N0 b o\/K.B b) b o:=fun b h1 h2 o h=>by
    rcases h with (h|h)|h
    . have:=hlt _ _ h;omega
    . exact h2 h
    . exact h2 h
  refine ⟨hJ0 K.B _ ⟨⟨fr.os,fr.tape,fr.output,by rw [setRow_size];exact fr.size,fun k hk=>(hoth k fun e=>by have:=hk.1;omega).trans (fr.block k hk.1)⟩,fun k ob _ e1 _=>(hoth k fun e=>by have:=(Array.getElem?_eq_some_iff.1 e1).1;omega).trans ((fr.block k (Array.getElem?_eq_some_iff.1 e1).1).trans e1)⟩ fun b hb=>by cases hb;exact ⟨gen,hnbc⟩,
    by rw [setRow_size];exact fr.size,fun b o hb=>?_,hnow,?_,?_,?_,?_,?_⟩
  . rw [setRow_size]
    rcases hb with hb|hb
    . exact Nat.lt_of_lt_of_le (hlt _ _ hb) fr.size
    . cases hb
      obtain ⟨ob,e,_⟩:=hnbc
      have:=(Array.getElem?_eq_some_iff.1 e).1
      rwa [setRow_size] at this
  . rw [hp2,t2];exact ptr_raw ((hoth _ ne1.symm).trans h2) (hno _ ge2 ne5.symm) ⟨rfl,rfl⟩
  . rw [hp3,t8,hv];exact ptr_raw ((hoth _ ne3.symm).trans h8) (hno _ ge8 ne7.symm) ⟨rfl,rfl⟩
  . rw [hp4];exact RepV.mono hst d4
  . rw [hp5];exact RepV.mono hst t1
  . rw [hp6,t9];exact ptr_raw (setRow_same h9) (hno _ ge9 ne4) ⟨rfl,rfl⟩
end Go.V
namespace Go.V
open Go.Proofs
open Go.RowKit (Below)
section
variable {a : Act} {w : World} {o : Oper}
theorem ex_field67 {p:Nat} (ho:o.op = .fieldAddr 42 (.tmp p) 1) {b j:Nat} (h:tm a p = .pointer (some ⟨b,j,none⟩)):(execOp a.eval o).run Try.prog w = .ok (.value (.pointer (some ⟨b,j+1,none⟩))) w:=by
  have e:a.eval (.tmp p) = .pointer (some ⟨b,j,none⟩):=h
  simp only [execOp,ho,e]
  simp [go_sem,add_lit]
theorem ex_loadC {T p:Nat} {t:Ty} (hty:tyOf Try.prog 9 T=some t) (ho:o.op = .load T (.tmp p)) {b j:Nat} {u:Value} (ht:tm a p = .pointer (some ⟨b,j,none⟩)) (hts:t.size=1) (hu:toVal t [u]=u) (hc:w.cell? ⟨b,j,none⟩=some u) :
    (execOp a.eval o).run Try.prog w = .ok (.value u) w:=by
  have e0:a.eval (.tmp p) = .pointer (some ⟨b,j,none⟩):=ht
  have hl:=run_loadVar (P:=Try.prog) hty (w:=w) (b:=b) (o:=j) (cs:=[u]) (by rw [hts];rfl) (fun k hk=>by
    have hk:k=0:=by simpa using hk
    subst hk
    exact hc)
  rw [hu] at hl
  simp [execOp,ho,e0,Instr.loadAt,Instr.sureAddr,hl]
end
theorem sheet_errs {M:Mut} {w:World} {v:Value} {sh:SHT} (h:RepV M w (.ptr SHTY) v sh):∃ b o u,v = .pointer (some ⟨b,o,none⟩)/\w.cell? ⟨b,o+1,none⟩=some u/\RepV M w (.list (.int .i64)) u sh.2.1:=by
  obtain ⟨cs,e1,b,o,ec,e2,e3,e4,c1,c2,e5,h1,c3,c4,e6,h2,h3⟩:=h
  subst e1
  subst e2
  have l1:c1.length=1:=RepC.length _ _ _ h1
  have l3:c3.length=1:=RepC.length _ _ _ h2
  match c1,l1 with
  | [v1],_ =>
  match c3,l3 with
  | [u],_ =>
  refine ⟨b,o,u,rfl,?_,[u],rfl,h2⟩
  have:=(e4 1 (by rw [e5,e6];simp)).1
  rw [this]
  congr 1
  simp [e5,e6]
theorem iter112 {M:Mut} {w:World} {ps:Value} {sh:SHT} (hp:RepV M w (.ptr SHTY) ps sh) {r:Int} {lists:LLI} {zs:List Int} {N n:Nat} {res:List (List Int)×List Int}
    (hS:∀ yv,S112 N yv sh = .ret (r,lists,zs,())) (hz:zs≠[]) (hP:fromP lists sh n (IntKind.i64.wrap (r - 1)) sh.2.1 zs = .ret res):IterP Try.prog (.func (.func 61) #[] #[ps]) (.list (.int .i64)) res.1 M w:=by
  refine ⟨61,#[],#[ps],rfl,by kernel_rfl,fun nn l R J Jx W N0 hSt hsz hInv hN0 hR hJI hJs hJxs hround hJ0=>?_⟩
  have hp':RepV N0 W (.ptr SHTY) ps sh:=RepV.mono hSt hp
  refine callsIn_wide.1 (callsIn_of_wp_marks (n:=0) Try.func61 some112 trivial ?_)
  show (bodyOf Try.f61).wpIn (fen none) 0 Try.prog _ { tmps := #[.func (.yield l) #[] #[],ps]++Array.replicate (39 - 2) undef,defers:=[] } W
  refine seg112_wp N (hS (.func (.yield l) #[] #[])) (F:=(· < W.heap.size)) (M0:=base0 N0 W) (w0:=W) (fun w' hw'=>Inv.below _ _ hInv ⟨hw'.os,hw'.tape,hw'.output,hw'.size,fun k hk=>hw'.block k hk⟩) (fun j v hj=>by cases hj) (start112 ⟨rfl,rfl⟩ hp' hN0) fun st a' w' hc he=>?_
  obtain ⟨b2,b4,b8,b9,nb,cap,E⟩:=e112 hc he hz hN0
  obtain ⟨K,hKe⟩:∃ K:CK,K={ J:=J,Jx:=Jx,W:=W,l:=l,R:=R,ys:=res.1,nb:=nb,rows:=zs.length,cap:=cap,p2:=tm a' 2,p3:=tm a' 8,p4:=tm a' 4,p5:=tm a' 1,p6:=tm a' 9,lists:=lists,sh:=sh }:=⟨_,rfl⟩
  have hK:K.OK:=by
    subst hKe
    refine ⟨E.ge.2.2.2.2,fun i M1 W1 h=>hJI _ _ _ _ h,fun i M1 W1 W2 h hs=>hJs _ _ _ _ _ h hs,fun W1 W2 h hs=>hJxs _ _ _ h hs,fun b hb=>(hR b hb).1,fun i M1 W1 u y h hy hu=>?_⟩
    obtain ⟨fn,tmps,assign,body,q1,q2⟩:=hround _ i M1 W1 u y h hy hu
    exact ⟨fn,tmps,assign,body,q1,q2.1,fun c cs _=>q2.2 c cs (room_wide _)⟩
  have hat:K.At zs 0 (fun b o=>N0 b o\/K.B b) (w'.setRow b9 #[K.pf]):=by
    subst hKe
    exact E112.at_ (K:={ J:=J,Jx:=Jx,W:=W,l:=l,R:=R,ys:=res.1,nb:=nb,rows:=zs.length,cap:=cap,p2:=tm a' 2,p3:=tm a' 8,p4:=tm a' 4,p5:=tm a' 1,p6:=tm a' 9,lists:=lists,sh:=sh }) E rfl rfl rfl rfl rfl rfl hN0 fun B W' h1 h2=>hJ0 B W' h1 h2
  have k5:K.p5=tm a' 1:=by rw [hKe]
  have k6:K.p6=tm a' 9:=by rw [hKe]
  have kpf:K.pf = .func (.func 62) #[] #[tm a' 2,tm a' 8,tm a' 4,tm a' 1,tm a' 9]:=by rw [hKe];rfl
  have kys:K.ys=res.1:=by rw [hKe]
  have kli:K.lists=lists:=by rw [hKe]
  have ksh:K.sh=sh:=by rw [hKe]
  have kJ:K.J=J:=by rw [hKe]
  have kJx:K.Jx=Jx:=by rw [hKe]
  have kW:K.W=W:=by rw [hKe]
  have hfr:K.fromN n=fromP lists sh n:=by rw [fromN_plain,kli,ksh]
  have hcall:=fun u hu=>CK.from_ok hK n (IntKind.i64.wrap (r - 1)) sh.2.1 zs res 0 _ _ u hat hu (by rw [hfr];exact hP) (fun j y hj=>by rw [Nat.zero_add,kys];exact hj)
  have sz:=E.sz
  obtain ⟨T9,u9,h9⟩:=E.h9
  rw [tail112_eq]
  obtain ⟨o0,i0,d0,p0,q0⟩:=infoAt info112_11 (i:=0) rfl
  obtain ⟨o1,i1,d1,p1,q1⟩:=infoAt info112_11 (i:=1) rfl
  simp only at d0 p0 q0 d1 p1 q1
  refine wpIn_seq (wpIn_region ?_)
  have hsize:r112_11.size=2:=by kernel_rfl
  rw [hsize]
  show wpOpsIn (fen none) 0 Try.prog r112_11 _ [0,1] a' w'
  rw [wpOpsIn_cons]
  refine opn_value i0 (wanted_none q0) (fun c h=>by rw [p0] at h;cases h) (ex_make113 p0) ?_
  rw [d0,<- kpf,wpOpsIn_cons]
  refine opn_skipped i1 (wanted_none q1) (fun c h=>by rw [p1] at h;cases h) (ex_store149 p1 (b:=b9) (v:=u9) (u:=K.pf) (E:=T9) ?_ (tm_put_same (by omega)) rfl rfl h9) ?_
  . rw [tm_put_other (by omega)];exact E.t9
  generalize hw1:w'.setRow b9 #[K.pf]=w1 at hat hcall
  obtain ⟨a1,ha1⟩:∃ a1:Act,a1=a'.put (some 32) K.pf:=⟨_,rfl⟩
  rw [d1,put_none,<- ha1]
  have sz1:a1.tmps.size=39:=by rw [ha1,size_put];exact sz
  have t9:tm a1 9=K.p6:=by rw [ha1,tm_put_other (by omega),k6]
  have t1:tm a1 1=K.p5:=by rw [ha1,tm_put_other (by omega),k5]
  have t3:tm a1 3 = .int .i64 r:=by rw [ha1,tm_put_other (by omega)];exact E.t3
  have hd1:a1.defers=a'.defers:=by rw [ha1,defers_put]
  have hmk:Marks (fun D=>W.heap.size<=D/\K.dq (fun b o=>N0 b o\/K.B b) D) w1 a1.defers:=by
    rw [hd1]
    have hkd:KeepsD w' w1:=fun D c e=>by
      rw [<- hw1]
      exact (setRow_other fun e'=>by rw [e',h9] at e;cases e).trans e
    refine marks_imp (fun D hD hd=>⟨hD,by rw [kW];exact hD,fun o h=>?_⟩) (E.marks.keep hkd)
    rcases h with h|h
    . have:=hN0 _ _ h;omega
    . obtain ⟨b,cap',cells,T,⟨g1,_⟩,g2,_⟩:=hat.now
      have g1:K.v = .slice (some ⟨b,0,none⟩) zs.length cap':=g1
      unfold CK.v at g1
      simp only [Value.slice.injEq,Option.some.injEq,Addr.mk.injEq,and_true] at g1
      have h:D=K.nb:=h
      rw [h,g1.1,g2] at hd
      cases hd
  obtain ⟨o0,i0,d0,p0,q0⟩:=infoAt info112_12 (i:=0) rfl
  obtain ⟨o1,i1,d1,p1,q1⟩:=infoAt info112_12 (i:=1) rfl
  obtain ⟨o2,i2,d2,p2,q2⟩:=infoAt info112_12 (i:=2) rfl
  obtain ⟨o3,i3,d3,p3,q3⟩:=infoAt info112_12 (i:=3) rfl
  obtain ⟨o4,i4,d4,p4,q4⟩:=infoAt info112_12 (i:=4) rfl
  obtain ⟨o5,i5,d5,p5,q5⟩:=infoAt info112_12 (i:=5) rfl
  simp only at d0 p0 q0 d1 p1 q1 d2 p2 q2 d3 p3 q3 d4 p4 q4 d5 p5 q5
  obtain ⟨b,off,u,hb1,hb2,hb3⟩:=sheet_errs hat.d5
  refine wpIn_region ?_
  have hsize:r112_12.size=6:=by kernel_rfl
  rw [hsize]
  show wpOpsIn (fen none) 0 Try.prog r112_12 _ [0,1,2,3,4,5] a1 w1
  rw [wpOpsIn_cons]
  refine opn_value i0 (wanted_none q0) (fun c h=>by rw [p0] at h;cases h) (ex_loadRaw (st:=[]) (by kernel_rfl) p0 (t9 ▸ dS_ok hat.d6)) ?_
  rw [d0,wpOpsIn_cons]
  refine opn_value i1 (wanted_none q1) (fun c h=>by rw [p1] at h;cases h) (ex_move p1) ?_
  rw [d1,tm_put_other (by omega),t3,wpOpsIn_cons]
  refine opn_value i2 (wanted_none q2) (fun c h=>by rw [p2] at h;cases h) (ex_sub1 p2 (tm_put_same (by rw [size_put];omega))) ?_
  rw [d2,wpOpsIn_cons]
  refine opn_value i3 (wanted_none q3) (fun c h=>by rw [p3] at h;cases h) (ex_field67 p3 (b:=b) (j:=off) ?_) ?_
  . rw [tm_put_other (by omega),tm_put_other (by omega),tm_put_other (by omega),t1];exact hb1
  rw [d3,wpOpsIn_cons]
  refine opn_value i4 (wanted_none q4) (fun c h=>by rw [p4] at h;cases h) (ex_loadC (t:=.list (.int .i64)) (by kernel_rfl) p4 (tm_put_same (by simp only [size_put];omega)) rfl rfl hb2) ?_
  rw [d4,wpOpsIn_cons]
  refine opn_enter i5 (wanted_none q5) (fun c h=>by rw [p5] at h;cases h) (ex_call113 p5 (u:=.int .i64 (IntKind.i64.wrap (r - 1))) (v:=u) (pc := #[K.p2,K.p3,K.p4,K.p5,K.p6]) ?_ ?_ ?_) ((hcall u (ksh ▸ hb3)).mono ?_)
  . rw [tm_put_other (by omega),tm_put_other (by omega),tm_put_other (by omega),tm_put_other (by omega),tm_put_same (by omega)];rfl
  . rw [tm_put_other (by omega),tm_put_other (by omega),tm_put_same (by simp only [size_put];omega)]
  . exact tm_put_same (by simp only [size_put];omega)
  intro e w2 he
  have leave2:∀ (v:Value) (w2:World),K.Kd (fun b o=>N0 b o\/K.B b) w1 w2->(∀ w3,Mk (fun D=>W.heap.size<=D) w2 w3->((∃ B M1,J B res.1.length M1 w3)\/∃ B,Jx B w3)) ->
      bodyPostM (fen none) 0 Try.prog Try.f61 (fun r W'=>(∃ u,r = .returned u)/\((∃ B M1,J B res.1.length M1 W')\/∃ B,Jx B W')) .normal ((((((a1.put (some 33) K.pf).put (some 34) (.int .i64 r)).put (some 35) (.int .i64 (IntKind.i64.wrap (r - 1)))).put (some 36) (.pointer (some ⟨b,off+1,none⟩))).put (some 37) u).put (some 38) v) w2:=by
    intro v w2 hk h3
    refine leave_marks (q:=fun D=>W.heap.size<=D) (by simp) ?_ fun w3 hm=>?_
    . simp only [defers_put]
      exact CK.Kd.marks hk hmk
    . exact ⟨.tuple #[],results112,⟨_,rfl⟩,h3 w3 hm⟩
  have hle:W.heap.size<=w1.heap.size:=by have:=hat.size;rwa [kW] at this
  have mk:∀ {w2 w3:World},W.heap.size<=w2.heap.size->Mk (fun D=>W.heap.size<=D) w2 w3->IterStepB K.B K.W w2 w3:=by
    intro w2 w3 hsz2 hm
    rw [kW]
    exact ⟨⟨hm.os,hm.tape,hm.output,hm.size,fun k hk=>hm.block k ⟨Nat.lt_of_lt_of_le hk.1 hsz2,fun hq=>by have:=hk.1;omega⟩⟩,fun k ob _ e1 e2=>(hm.block k ⟨(Array.getElem?_eq_some_iff.1 e1).1,fun _ c e=>by rw [e1] at e;cases e;cases e2⟩).trans e1⟩
  rcases he with ⟨rfl,M2,g1,g2⟩|⟨rfl,g1,g2⟩
  . refine ⟨_,rfl,?_⟩
    rw [d5]
    refine leave2 _ _ g2.kdd fun w3 hm=>.inl ⟨K.B,M2,?_⟩
    have h1:=hK.step _ _ _ _ g1.j (mk (by have:=g1.size;rwa [kW] at this) hm)
    rw [kJ,Nat.zero_add] at h1
    exact h1
  . refine ⟨_,rfl,?_⟩
    rw [d5]
    refine leave2 _ _ g2 fun w3 hm=>.inr ⟨K.B,?_⟩
    have h1:=hK.stepx _ _ g1 (mk (Nat.le_trans hle g2.1) hm)
    rw [kJx] at h1
    exact h1
end Go.V
