/- Part. -/
import Derived.Test.YtmkbnifehdhbbabGreatDoorDC
import Derived.Test.YtmkbnifehdhbbabGreatDoorCZ
set_option linter.all false
noncomputable section
namespace Go.V
open Go.Proofs
open Go.RowKit (Below)
section
variable {w : World} {b8 b10 b4 b5 : Nat} {p fr pl ri : Int} {a1 a2 : Option Addr} {n1 c1 n2 c2 : Nat}
set_option maxRecDepth 20000 in
theorem MP (h0:w.cell? ⟨b8,0,none⟩=some (.int .i64 p)) (h1:w.cell? ⟨b8,1,none⟩=some (.slice a1 n1 c1)) (h2:w.cell? ⟨b8,2,none⟩=some (.slice a2 n2 c2)) (h3:w.cell? ⟨b10,0,none⟩=some (.int .i64 fr)) (h4:w.cell? ⟨b4,0,none⟩=some (.int .i64 pl)) (h5:w.cell? ⟨b5,0,none⟩=some (.int .i64 ri)) {R:World->Prop}
 (h:Calls Tryz.prog 94 #[.agg #[.int .i64 p,.slice a1 n1 c1,.slice a2 n2 c2],.int .i64 fr,.int .i64 pl,.int .i64 ri] w fun e w'=>(∃ u,e = .returned u)/\R w') :
 Calls Tryz.prog 93 #[.pointer (some ⟨b8,0,none⟩),.pointer (some ⟨b10,0,none⟩),.pointer (some ⟨b4,0,none⟩),.pointer (some ⟨b5,0,none⟩)] w fun e w'=>(∃ u,e = .returned u)/\R w':=by
 go_enter Tryz.func93,Tryz.ntmps93
 go_wp2_with (go_at_call 94;refine h.mono ?_;rintro e w' ⟨⟨u,rfl⟩,hr⟩)
 simp [bodyPost,results,Tryz.results93,go_sem];exact hr
set_option maxRecDepth 20000 in
theorem MO (h0:w.cell? ⟨b8,0,none⟩=some (.int .i64 p)) (h1:w.cell? ⟨b8,1,none⟩=some (.slice a1 n1 c1)) (h2:w.cell? ⟨b8,2,none⟩=some (.slice a2 n2 c2)) (h3:w.cell? ⟨b10,0,none⟩=some (.int .i64 fr)) (h4:w.cell? ⟨b4,0,none⟩=some (.int .i64 pl)) (h5:w.cell? ⟨b5,0,none⟩=some (.int .i64 ri)) {R:List PanicEntry->World->Prop}
 (h:Calls Tryz.prog 94 #[.agg #[.int .i64 p,.slice a1 n1 c1,.slice a2 n2 c2],.int .i64 fr,.int .i64 pl,.int .i64 ri] w fun e w'=>∃ c,e = .panicked c/\R c w') :
 Calls Tryz.prog 93 #[.pointer (some ⟨b8,0,none⟩),.pointer (some ⟨b10,0,none⟩),.pointer (some ⟨b4,0,none⟩),.pointer (some ⟨b5,0,none⟩)] w fun e w'=>∃ c,e = .panicked c/\R c w':=by
 go_enter Tryz.func93,Tryz.ntmps93
 go_wp2_with (go_at_call 94;refine h.mono ?_;rintro e w' ⟨c,rfl,hr⟩)
 simp [bodyPost];exact hr
end
abbrev xC:Type:=TR×Int×Int×Int×Unit
def ko (x:xC) (b:Bool):Bool:=match b with
 | false=>true
 | true=>(match f83 x with | .ret _=>true | .pan p=>(mL p).isSome | .fail=>false)
def fx (x:xC) (b:Bool):Bool:=match b with
 | false=>false
 | true=>(match f83 x with | .ret _=>true|_=>false)
def rF (H:Hole) (s:H.σ) (st:St):Bool×Outs H :=
 match get st 8 with
 | .box [.d (.int .i64) p,.d (.list (.prod (.int .i64) (.prod (.list (.int .i64)) .unit))) cs,.d (.list (.list (.int .i64))) ms]=>(match get st 10 with
  | .box [.d (.int .i64) fr]=>(match get st 4 with
   | .box [.d (.int .i64) pl]=>(match get st 5 with
    | .box [.d (.int .i64) ri]=>(match get st 35 with
     | .d .bool b=>((st.length==49 && bL [36,37,38,39] st) && ko (((p,(cs,())),(ms,())),(fr,(pl,(ri,())))) b,.some [(s,(bE [36,37,38] st).set 39 (.d .bool (fx (((p,(cs,())),(ms,())),(fr,(pl,(ri,())))) b)))])
     | _=>(false,.some []))
    | _=>(false,.some []))
   | _=>(false,.some []))
  | _=>(false,.some []))
 | _=>(false,.some [])
def fJ:Array Oper:=bp 8 (av Tryz.f51)
theorem qn:fJ.toList.map a_=[(some 33,.load 3 (.tmp 10),none),(some 34,.binOp .gtr 3 (.tmp 33) (.const (.int .i64 0)) 3,none),(some 35,.move (.tmp 34),none),(some 36,.makeFunc (.func 93) #[] #[.tmp 8,.tmp 10,.tmp 4,.tmp 5],some (2,true)),
 (some 37,.call { callee:=.value (.func 74),args := #[.tmp 36],argTypes := #[1] },some (2,true)),(some 38,.binOp .eql 28 (.tmp 37) (.const (.int .i64 0)) 28,some (2,true)),(some 39,.pick (.tmp 35) (.tmp 38) (.const (.bool false)),none)]:=by kernel_rfl
theorem Pk {a:Act} {w:World} {o:Oper} {p:Nat} (ho:o.op = .binOp .eql 28 (.tmp p) (.const (.int .i64 0)) 28) {x:Int} (h:tm a p = .int .i64 x):(execOp a.eval o).run Tryz.prog w = .ok (.value (.bool (x==0))) w:=by
 have e1:a.eval (.tmp p) = .int .i64 x:=h;have e2:a.eval (.const (.int .i64 0)) = .int .i64 0:=rfl;have e3:(binOp .eql 28 (.int .i64 x) (.int .i64 0)).run Tryz.prog w = .ok (.bool (x==0)) w:=by simp [binOp,Op.intCmp]
 simp [execOp,ho,e1,e2,yr,e3]
theorem xR {M:ai} {w:World} {st:St} {a:Act} {v:Value} {x:Int} (h:aI M w st a v (.box [.d (.int .i64) x])):∃ b T,v = .pointer (some ⟨b,0,none⟩)/\w.heap[b]? = some (.cells #[.int .i64 x] T (0,0)):=by
 obtain ⟨b,T,cells,h1,h2,h3,h4⟩:=ja h;obtain ⟨c,rfl⟩:=sF (h3.trans rfl);have:c = .int .i64 x:=kI (h4 0 _ c rfl rfl);subst this;exact ⟨b,T,h1,h2⟩
theorem FF (x y z u:Value):(#[x,y,z,u]:Array Value) = #[] ++ #[x,y,z,u]:=by simp
theorem V4 {H:Hole}:bw Tryz.prog H fJ 3 3 (rF H):=by
 intro F M0 w0 n hI hpl Q rest s st act w hc h1 hK;obtain ⟨o3,i3,d3,p3,q3⟩:=aB qn (i:=3) rfl;obtain ⟨o4,i4,d4,p4,q4⟩:=aB qn (i:=4) rfl;obtain ⟨o5,i5,d5,p5,q5⟩:=aB qn (i:=5) rfl;obtain ⟨o6,i6,d6,p6,q6⟩:=aB qn (i:=6) rfl;obtain ⟨o2,i2,d2,p2,q2⟩:=aB qn (i:=2) rfl;simp only at d3 p3 q3 d4 p4 q4 d5 p5 q5 d6 p6 q6 d2;have hi2:(fJ[2]?).bind (·.dst)=some 35:=by rw [i2];exact d2
 unfold rF at h1;split at h1;rotate_left
 . cases h1
 rename_i pD cs ms e8;obtain ⟨p,hp'⟩:∃ z:Int,z=pD:=⟨_,rfl⟩
 subst hp';split at h1;rotate_left
 . cases h1
 rename_i frD e10;obtain ⟨fr,hf'⟩:∃ z:Int,z=frD:=⟨_,rfl⟩
 subst hf';split at h1;rotate_left
 . cases h1
 rename_i plD e4;obtain ⟨pl,hpl'⟩:∃ z:Int,z=plD:=⟨_,rfl⟩
 subst hpl';split at h1;rotate_left
 . cases h1
 rename_i riD e5;obtain ⟨ri,hri'⟩:∃ z:Int,z=riD:=⟨_,rfl⟩
 subst hri';split at h1;rotate_left
 . cases h1
 rename_i bD e35;obtain ⟨b,hb'⟩:∃ z:Bool,z=bD:=⟨_,rfl⟩
 subst hb';simp only [Bool.and_eq_true,beq_iff_eq] at h1;obtain ⟨⟨hlen,hnb⟩,hok⟩:=h1;obtain ⟨x,hx⟩:∃ x:xC,x=(((p,(cs,())),(ms,())),(fr,(pl,(ri,())))):=⟨_,rfl⟩
 have hok:ko x b=true:=by rw [hx];exact hok
 have hmem:(rF H s st).2.mem (s,(bE [36,37,38] st).set 39 (.d .bool (fx x b))):=by
  rw [hx];unfold rF;rw [e8];dsimp only;rw [e10];dsimp only;rw [e4];dsimp only;rw [e5];dsimp only;rw [e35];exact .head _
 have nb:∀ d∈[36,37,38,39],au (get st d)=false:=fun d hd=>by
  have:=List.all_eq_true.1 hnb d hd
  simpa using this
 have hnb3:∀ l:List (Nat×Value),l.map (·.1)=[36,37,38]->bL (l.map (·.1)) st=true:=fun l hl=>by
  rw [hl];refine List.all_eq_true.2 fun d hd=>?_
  have:=nb d (by simp at hd ⊢;omega);simp [this]
 have fin:∀ (u1 u2 u3:Value) (w':World) (M':ai),Fr F w0 w'->bv H F M0 s M' st act w'->Region.wanted o6 (yielded fJ (((act.put (some 36) u1).put (some 37) u2).put (some 38) u3).tmps)=true->(b=true->u3 = .bool (fx x b)) ->
  wpOpsIn (aA none) n Tryz.prog fJ Q (6 :: rest) (((act.put (some 36) u1).put (some 37) u2).put (some 38) u3) w':=by
  intro u1 u2 u3 w' M' hf' hG' hw hu3;have hsz:act.tmps.size=49:=hG'.2.1.size.trans hlen;rw [wpOpsIn_cons];have s35:=hG'.2.1.slot 35;rw [e35] at s35;have t35:tm act 35 = .bool b:=jy s35;refine aV i6 hw (fun c h=>by rw [p6] at h;cases h) (yv p6 (b:=b) (by rw [aj (by omega),aj (by omega),aj (by omega)];exact t35)) ?_;rw [d6];have hG3:=gc hG' [(36,u1),(37,u2),(38,u3)] _ act hG' (hnb3 _ rfl);have hbx:au (get (bE [36,37,38] st) 39)=false:=by
   rw [oA [36,37,38] st (by simp)];exact nb 39 (by simp)
  have hval:(if b=true then tm (((act.put (some 36) u1).put (some 37) u2).put (some 38) u3) 38 else .bool false) = .bool (fx x b):=by
   cases b with
   | true =>
    rw [if_pos rfl,ay (by simp only [aG];omega)];exact hu3 rfl
   | false=>rfl
  rw [hval];have hf:=hG3.focus.fin (dst:=some 39) (s:=.d .bool (fx x b)) (v:=.bool (fx x b)) (fun d' hd=>by cases hd;exact hbx) rfl ⟨_,rfl,rfl⟩;exact hK _ hmem _ _ ⟨hf',M',hG3.unfocus (Fr.refl _ _) hf⟩
 obtain ⟨hfr,M,hG⟩:=id hc;have hg:=hG.2.1;have hsz:act.tmps.size=49:=hg.size.trans hlen;have s35:=hg.slot 35;rw [e35] at s35;have t35:tm act 35 = .bool b:=jy s35;show wpOpsIn (aA none) n Tryz.prog fJ Q (3 :: 4 :: 5 :: 6 :: rest) act w;cases b with
 | false =>
  rw [wpOpsIn_cons];refine qK i3 (iT q3 hi2 (by omega) t35) ?_;rw [d3,wpOpsIn_cons];have w4:=iT (ops:=fJ) (a:=act.put (some 36) undef) q4 hi2 (by rw [aG];omega) (by rw [aj (by omega)];exact t35);refine qK i4 w4 ?_;rw [d4,wpOpsIn_cons];have w5:=iT (ops:=fJ) (a:=(act.put (some 36) undef).put (some 37) undef) q5 hi2 (by rw [aG,aG];omega) (by rw [aj (by omega),aj (by omega)];exact t35);refine qK i5 w5 ?_;rw [d5];exact fin _ _ _ w M hfr hG (aC q6) fun h=>by cases h
 | true =>
  have s8:=hg.slot 8;rw [e8] at s8;obtain ⟨b8,T8,c8,t8,hb8,hc8,hok8⟩:=ja s8;obtain ⟨y0,y1,y2,rfl⟩:=B' (hc8.trans rfl);have hy0:y0 = .int .i64 p:=kI (hok8 0 _ y0 rfl rfl);subst hy0;have hy1:af M w ba [y1] cs:=hok8 1 _ y1 rfl rfl;have hy2:af M w be [y2] ms:=hok8 2 _ y2 rfl rfl;obtain ⟨a1,c1,g1,_⟩:=id hy1;obtain ⟨a2,c2,g2,_⟩:=id hy2;have g1:y1 = .slice a1 cs.length c1:=by simpa using g1
  have g2:y2 = .slice a2 ms.length c2:=by simpa using g2
  subst g1 g2;have s10:=hg.slot 10;rw [e10] at s10;obtain ⟨b10,T10,t10,hb10⟩:=xR s10;have s4:=hg.slot 4;rw [e4] at s4;obtain ⟨b4,T4,t4,hb4⟩:=xR s4;have s5:=hg.slot 5;rw [e5] at s5;obtain ⟨b5,T5,t5,hb5⟩:=xR s5;rw [wpOpsIn_cons];obtain ⟨vf,hvf⟩:∃ vf:Value,vf = .func (.func 93) #[] #[.pointer (some ⟨b8,0,none⟩),.pointer (some ⟨b10,0,none⟩),.pointer (some ⟨b4,0,none⟩),.pointer (some ⟨b5,0,none⟩)]:=⟨_,rfl⟩
  have hr3:(execOp act.eval o3).run Tryz.prog w = .ok (.value vf) w:=by
   have k8:act.eval (.tmp 8) = .pointer (some ⟨b8,0,none⟩):=t8;have k10:act.eval (.tmp 10) = .pointer (some ⟨b10,0,none⟩):=t10;have k4:act.eval (.tmp 4) = .pointer (some ⟨b4,0,none⟩):=t4;have k5:act.eval (.tmp 5) = .pointer (some ⟨b5,0,none⟩):=t5;simp [execOp,p3,Instr.makeFunc,k8,k10,k4,k5,hvf]
  refine aV i3 (iT q3 hi2 (by omega) t35) (fun c h=>by rw [p3] at h;cases h) hr3 ?_;rw [d3,wpOpsIn_cons];have hr4:(execOp (act.put (some 36) vf).eval o4).run Tryz.prog w = .ok (.enter 74 #[vf]) w:=by
   have e1:(act.put (some 36) vf).eval (.tmp 36)=vf:=ay (by omega);have e4:(act.put (some 36) vf).eval (.func 74) = .func (.func 74) #[] #[]:=rfl;have e3:=dK (P:=Tryz.prog) (g:=74) (by kernel_rfl) #[vf] w;simp [execOp,p4,resolve,e1,e4,Deferred.ofValue,invoke,e3]
  have w4:=iT (ops:=fJ) (a:=act.put (some 36) vf) q4 hi2 (by rw [aG];omega) (by rw [aj (by omega)];exact t35);refine gz i4 w4 (fun c h=>by rw [p4] at h;cases h) hr4 ?_;have hB1:Below w.heap.size w (w.alloc (.cells #[.int .i64 0] 28)):=(Below.refl _ _).alloc (Nat.le_refl _) _;have hsz1:(w.alloc (.cells #[.int .i64 0] 28)).heap.size=w.heap.size+1:=by simp
  have G1:=hg.alloc (.cells #[.int .i64 0] 28) (fun _=>True);have hI1:Inv.I Tryz.prog (w.alloc (.cells #[.int .i64 0] 28)):=hI _ (hfr.alloc hg.room _);have hst1:aL M w (fun b o=>M b o\/(b=w.heap.size/\True)) (w.alloc (.cells #[.int .i64 0] 28)):=od M w _ _;have htr:aw M w df (.agg #[.int .i64 p,.slice a1 cs.length c1,.slice a2 ms.length c2]) ((p,(cs,())),(ms,())):=⟨[.int .i64 p,.slice a1 cs.length c1,.slice a2 ms.length c2],rfl,[.int .i64 p,.slice a1 cs.length c1],[.slice a2 ms.length c2],rfl,⟨[.int .i64 p],[.slice a1 cs.length c1],rfl,rfl,⟨[.slice a1 cs.length c1],[],rfl,hy1,rfl⟩⟩,⟨[.slice a2 ms.length c2],[],rfl,hy2,rfl⟩⟩
  have hvs:bN (fun b o=>M b o\/(b=w.heap.size/\True)) (w.alloc (.cells #[.int .i64 0] 28)) Bj.arg (#[.agg #[.int .i64 p,.slice a1 cs.length c1,.slice a2 ms.length c2],.int .i64 fr,.int .i64 pl,.int .i64 ri]:Array Value).toList x:=by
   rw [hx];exact ⟨_,_,rfl,htr.mono hst1,_,_,rfl,⟨_,rfl,rfl⟩,_,_,rfl,⟨_,rfl,rfl⟩,_,_,rfl,⟨_,rfl,rfl⟩,rfl⟩
  have hc83:=MG x _ (w.alloc (.cells #[.int .i64 0] 28)) _ hI1 hvs G1.lt;have hsp:Bj.f x=f83 x:=rfl;rw [hsp] at hc83;have z0:=kH (cj hb8 (k:=0) rfl) (.cells #[.int .i64 0] 28);have z1:=kH (cj hb8 (k:=1) rfl) (.cells #[.int .i64 0] 28);have z2:=kH (cj hb8 (k:=2) rfl) (.cells #[.int .i64 0] 28);have z3:=kH (cj hb10 (k:=0) rfl) (.cells #[.int .i64 0] 28);have z4:=kH (cj hb4 (k:=0) rfl) (.cells #[.int .i64 0] 28);have z5:=kH (cj hb5 (k:=0) rfl) (.cells #[.int .i64 0] 28);have hent:fG Tryz.prog 93=true:=by kernel_rfl
  have tailB:∀ (e:Int) (w':World),Below w.heap.size w w'->(e==0)=fx x true->∃ v,Ending.returned (.int .i64 e) = .returned v/\wpOpsIn (aA none) n Tryz.prog fJ Q (5 :: 6 :: rest) ((act.put (some 36) vf).put o4.dst v) w':=by
   intro e w' hb he;refine ⟨_,rfl,?_⟩;rw [d4,wpOpsIn_cons];have w5:=iT (ops:=fJ) (a:=(act.put (some 36) vf).put (some 37) (.int .i64 e)) q5 hi2 (by rw [aG,aG];omega) (by rw [aj (by omega),aj (by omega)];exact t35);refine aV i5 w5 (fun c h=>by rw [p5] at h;cases h) (Pk p5 (ay (by rw [aG];omega))) ?_;rw [d5,he];have hGb:bv H F M0 s M st act w':=hG.unfocus (Fr.below hb hG.focus.room) (hG.focus.below hb);exact fin _ _ _ w' M (hfr.trans (Fr.below hb hg.room)) hGb (aC q6) fun _=>rfl
  cases hxx:f83 x with
  | fail=>unfold ko at hok;rw [hxx] at hok;cases hok
  | ret r =>
   rw [hxx] at hc83;dsimp only at hc83;have hsv:fx x true=true:=by unfold fx;rw [hxx]
   have hr1:=MP z0 z1 z2 z3 z4 z5 (R:=fun W=>Below (w.heap.size+1) (w.alloc (.cells #[.int .i64 0] 28)) W) (hc83.mono fun e w' ⟨v,e1,e2,_⟩=>⟨⟨v,e1⟩,by rw [<- hsz1];exact e2⟩);rw [FF] at hr1;refine (sG (v:=vf) (g:=93) (fs := #[]) (pc := #[.pointer (some ⟨b8,0,none⟩),.pointer (some ⟨b10,0,none⟩),.pointer (some ⟨b4,0,none⟩),.pointer (some ⟨b5,0,none⟩)]) hvf hent hr1 ?_).mono ?_
   . rintro e W ⟨⟨u,rfl⟩,hbel⟩;refine ⟨?_,.inl ⟨u,rfl⟩⟩;rw [hbel.block _ (by omega)];exact heap_alloc_new w _
   . rintro e w' ⟨e0,W,⟨⟨u,rfl⟩,hbel⟩,hfrA,hend⟩;have he:e = .returned (.int .i64 0):=by
      rcases hend with ⟨_,rfl⟩|⟨c,h,_⟩|⟨c,h,_⟩
      . rfl
      . cases h
      . cases h
     subst he;have hbW:Below w.heap.size w W:=hB1.trans ⟨hbel.os,hbel.tape,hbel.output,by have:=hbel.size;omega,fun k hk=>hbel.block k (by omega)⟩;have hszW:w.heap.size<W.heap.size:=by have:=hbel.size;omega
     exact tailB 0 w' ⟨by rw [hfrA.os,hbW.os],by rw [hfrA.tape,hbW.tape],by rw [hfrA.output,hbW.output],by have:=hfrA.size;omega,fun k hk=>by rw [hfrA.block k ⟨by omega,by omega⟩,hbW.block k hk]⟩ (by rw [hsv];rfl)
  | pan q =>
   rw [hxx] at hc83;dsimp only at hc83;have hsv:fx x true=false:=by unfold fx;rw [hxx]
   have hso:(mL q).isSome=true:=by unfold ko at hok;rw [hxx] at hok;exact hok
   obtain ⟨e,he⟩:=Option.isSome_iff_exists.1 hso;obtain ⟨T,cs',rfl,q1',q2',q3'⟩:=EC he;have hr1:=MO z0 z1 z2 z3 z4 z5 (R:=fun c W=>(∃ c0:Value,c0.oneCell'=true/\c=[{ v:=.iface T (.agg #[c0]),recovered:=false }])/\Below (w.heap.size+1) (w.alloc (.cells #[.int .i64 0] 28)) W) (hc83.mono (by
    rintro e w' ⟨⟨q,hq,rfl⟩,hbel⟩;obtain ⟨cs2,rfl,h6,h7⟩:=hq.agg q2';obtain ⟨c,rfl⟩:=sF (h6.trans q1');exact ⟨_,rfl,⟨c,by simpa using h7,rfl⟩,by rw [<- hsz1];exact hbel⟩))
   rw [FF] at hr1;refine (sG (v:=vf) (g:=93) (fs := #[]) (pc := #[.pointer (some ⟨b8,0,none⟩),.pointer (some ⟨b10,0,none⟩),.pointer (some ⟨b4,0,none⟩),.pointer (some ⟨b5,0,none⟩)]) hvf hent hr1 ?_).mono ?_
   . rintro e' W ⟨c,rfl,⟨c0,hc0,rfl⟩,hbel⟩;refine ⟨?_,.inr ⟨T,c0,by rcases q3' with h|h<;>simp [h.1],hc0,rfl⟩⟩;rw [hbel.block _ (by omega)];exact heap_alloc_new w _
   . rintro e' w' ⟨e0,W,⟨c,rfl,⟨c0,hc0,rfl⟩,hbel⟩,hfrA,hend⟩;have he':e' = .returned (.int .i64 e)/\(e==0)=false:=by
      rcases hend with ⟨⟨u,hu⟩,_⟩|⟨c',hc',rfl⟩|⟨c',hc',rfl⟩
      . cases hu
      . cases hc';rcases q3' with ⟨_,rfl⟩|⟨h,_⟩
        . exact ⟨rfl,rfl⟩
        . cases h
      . cases hc';rcases q3' with ⟨h,_⟩|⟨_,rfl⟩
        . cases h
        . exact ⟨rfl,rfl⟩
     obtain ⟨rfl,he2⟩:=he';have hbW:Below w.heap.size w W:=hB1.trans ⟨hbel.os,hbel.tape,hbel.output,by have:=hbel.size;omega,fun k hk=>hbel.block k (by omega)⟩;have hszW:w.heap.size<W.heap.size:=by have:=hbel.size;omega
     exact tailB e w' ⟨by rw [hfrA.os,hbW.os],by rw [hfrA.tape,hbW.tape],by rw [hfrA.output,hbW.output],by have:=hfrA.size;omega,fun k hk=>by rw [hfrA.block k ⟨by omega,by omega⟩,hbW.block k hk]⟩ (by rw [hsv,he2])
def uR:List Spec:=[dr,rp,rq,fw]
def p9:List (Nat×List Nat):=[(6,[4,5,8,9,29,30])]
def BV (s:Unit):List Spec:=[dr,rp,rq,fw]
def vL:Nat->Option (Nat×(Unit->St->Bool×Outs H0)):=fun i=>match i with|3=>some (3,rF H0)|_=>none
theorem Kl:∀ i y,vL i=some y->bw Tryz.prog H0 fJ i y.1 y.2:=by
 intro i y h
 unfold vL at h
 split at h
 . cases h;exact V4
 . cases h
def xr:List (List Nat×HdH H0):=[([1,1,1,1,0,1,0,0,1,1,0,0,1,0],⟨fun {ρ} k s st=>cf Tryz.prog H0 (fun s=>ah (BV s)) p9 vL 8 fJ k s st⟩)]
theorem Lh (h:∀ s,∀ sp∈BV s,cT Tryz.prog H0 s sp):bG Tryz.prog H0 (av Tryz.f51) (xr):=(bJ (c' := .region 8 fJ false) (by kernel_rfl) (cr (fun s g sp hs=>h s sp (List.mem_filter.1 hs).1) p9 Kl) dU)
def L45_0 (N:Nat) (n_L45_0:Nat) (x:eV) (place_9:Int) (right_10:Int) (x_11:Int) (x_12:(List (Int×aE))) (x_13:(List (List Int))) (out_14:(List Int)) (t30_15:Int):Out (Unit×bB) :=
 ev Tryz.prog H0 (ah uR) p9 N (xr) Tryz.f51 true false ch [1,1,1,1,0,1,0] n_L45_0 (()) [U,U,U,U,.box [.d (.int .i64) place_9],.box [.d (.int .i64) right_10],U,U,.box [.d (.int .i64) x_11,.d ba x_12,.d be x_13],.own (.int .i64) out_14 false,U,U,U,U,U,U,U,U,U,U,U,U,U,U,U,U,U,U,U,.d (.int .i64) (ae x.1.2.1),.d (.int .i64) t30_15,U,U,U,U,U,U,U,U,U,U,U,U,U,U,U,U,U,U]
theorem L45_0_succ (N:Nat) (n_L45_0:Nat) (x:eV) (place_9:Int) (right_10:Int) (x_11:Int) (x_12:(List (Int×aE))) (x_13:(List (List Int))) (out_14:(List Int)) (t30_15:Int):L45_0 N  (n_L45_0+1) x place_9 right_10 x_11 x_12 x_13 out_14 t30_15 =
 (match (decide (t30_15<(ae x.1.2.1))) with|true=>bif (ko ((((x_11,(x_12,())),(x_13,())),(t30_15,(place_9,(right_10,()))))) (decide (t30_15 > 0))) then match ((fx ((((x_11,(x_12,())),(x_13,())),(t30_15,(place_9,(right_10,()))))) (decide (t30_15 > 0)))) with|true=>bif (bQ out_14 ([t30_15]:List Int)) then L45_0 N n_L45_0 x place_9 right_10 x_11 x_12 x_13 (out_14++([t30_15]:List Int)) (IntKind.i64.wrap (t30_15+1)) else .fail|false=>L45_0 N n_L45_0 x place_9 right_10 x_11 x_12 x_13 out_14 (IntKind.i64.wrap (t30_15+1)) else .fail|false=>match ((ae out_14)==0) with|true=>.ret ((()),([],(5,())))|false=>.ret ((()),(out_14,(0,()))):Out (Unit×bB)):=by kernel_rfl
def wH (N:Nat) (x:eV):Out (Unit×bB):=match f55 (x.1,()) with | .ret r_1=>(match (!r_1) with|true=>.ret ((()),([],(2,())))|false=>match f73 (x.1,(x.2.1,())) with | .ret r_3=>(match (!r_3) with|true=>.ret ((()),([],(2,())))|false=>match f80 (x.2.2.1,()) with | .ret r_5=>(match (!r_5) with|true=>.ret ((()),([],(2,())))|false=>match f58 (x.1,()) with | .ret r_7=>L45_0 N N x x.2.1 x.2.2.1 r_7.1.1 r_7.1.2.1 r_7.2.1 [] 0 | .pan p=>.pan p | .fail=>.fail) | .pan p=>.pan p | .fail=>.fail) | .pan p=>.pan p | .fail=>.fail) | .pan p=>.pan p | .fail=>.fail
theorem N_ (N:Nat) (x:eV):cD Tryz.prog H0 (ah uR) p9 N (xr) Tryz.f51 true false iP ch (()) x=wH N x:=by kernel_rfl
def f45 (x:eV):Out bB:=dY (wH fuel x)
def Vv:Spec:=⟨51,.call,iP,ch,true,false,f45⟩
theorem Mp:am Tryz.prog Vv:=jM (H:=H0) () (fun w b h=>h) (fun M w=>trivial) (l:=uR) (fun sp hs=>(by simp only [uR,List.mem_cons,List.not_mem_nil,or_false] at hs;rcases hs with rfl|rfl|rfl|rfl<;>first|exact dh|exact sT|exact sU|exact fO)) Tryz.func51 rfl (Lh fun s sp hs=>.inl (by simp only [BV,List.mem_cons,List.not_mem_nil,or_false] at hs;rcases hs with rfl|rfl|rfl|rfl<;>first|exact dh|exact sT|exact sU|exact fO)) p9 fuel (N_ fuel)
end Go.V
end
