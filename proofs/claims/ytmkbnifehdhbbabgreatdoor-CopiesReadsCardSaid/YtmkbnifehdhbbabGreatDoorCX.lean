/- Part. -/
import Derived.Test.YtmkbnifehdhbbabGreatDoorCW
set_option linter.all false
noncomputable section
namespace Go.V
open Go.Proofs
open Go.RowKit (Below)
theorem Ps {a:Act} {w:World} {o:Oper} {p:Nat} (ho:o.op = .makeSlice 37 (.tmp p) (.tmp p)) {n:Nat} (h:tm a p = .int .i64 n) (hn:n<1000000):(execOp a.eval o).run Tryz.prog w = .ok (.value (.slice (some ⟨w.heap.size,0,none⟩) n n)) (w.alloc (.cells (madeCells #[.slice none 0 0] n) 25)):=by
 have e1:a.eval (.tmp p) = .int .i64 n:=h;have hr:=run_make (P:=Tryz.prog) (w:=w) 37 25 ((Tryz.prog.info? 25).getD default) (.slice none 0 0) (by kernel_rfl) (by kernel_rfl) (by kernel_rfl) .i64 .i64 n n (by omega) (by omega) (by rw [show ((Tryz.prog.info? 25).getD default).bytes=24 by kernel_rfl];omega) (by omega);rw [show ((Tryz.prog.info? 25).getD default).size=1 by kernel_rfl] at hr;simp only [execOp,ho,e1,Sem.run_bind,hr,Result.andThen_ok,Sem.run_pure,Int.toNat_natCast,Nat.mul_one];rfl
def uF (n:Int):Bool := @decide (0<=n/\n<1000000) (Classical.propDecidable _)
theorem Ik {n:Int}:uF n=true<->0<=n/\n<1000000:=by unfold uF;exact @decide_eq_true_iff _ (Classical.propDecidable _)
def qF (nt p d:Nat) (s:HN.σ) (st:St):Bool×Outs HN :=
 match get st p with
 | .d (.int .i64) n=>(((st.length==nt && bL [d] st) && Option.isNone (show SN from s)) && uF (show Int from n),.each fun v=>((some (v,List.replicate (show Int from n).toNat []):SN),st.set d (.d .raw v)))
 | _=>(false,.some [])
theorem S' {ops:Array Oper} {i p d nt:Nat} (x0:(ops.toList.map a_)[i]? = some (some d,.makeSlice 37 (.tmp p) (.tmp p),none)):dC Tryz.prog HN ops i (qF nt p d):=by
 intro F M0 w0 n hI hpl Q K s st act w hc h1 hK;obtain ⟨o0,i0,d0,p0,q0⟩:=aB rfl x0;simp only at d0 p0 q0;unfold qF at h1;split at h1;rotate_left
 . cases h1
 rename_i nD ea;obtain ⟨nn,hnn⟩:∃ z:Int,z=nD:=⟨_,rfl⟩
 subst hnn;simp only [Bool.and_eq_true,beq_iff_eq] at h1;obtain ⟨⟨⟨hlen,hnb⟩,hs⟩,hin⟩:=h1;have hs:s=(none:SN):=Option.isNone_iff_eq_none.1 hs;subst hs;obtain ⟨h0,hl⟩:=Ik.1 hin;obtain ⟨m,hm⟩:∃ m:Nat,nn=m:=⟨nn.toNat,by omega⟩
 subst hm;have hml:m<1000000:=by omega
 obtain ⟨hfr,M,hG⟩:=id hc;have hg:=hG.2.1;have sa:=hg.slot p;rw [ea] at sa;have tp:tm act p = .int .i64 m:=fL sa;refine aV i0 (aC q0) (fun c h=>by rw [p0] at h;cases h) (Ps p0 tp hml) ?_;rw [d0];have hbel:Below w.heap.size w (w.alloc (.cells (madeCells #[.slice none 0 0] m) 25)):=(Below.refl _ w).alloc (Nat.le_refl _) _;obtain ⟨M',hMn,hMo,hG1⟩:=GY hG hbel (Nat.le_refl _) (heap_alloc_new w _) (by unfold maxLen;omega);have hnb':au (get st d)=false:=by
  have:=List.all_eq_true.1 hnb d (by simp)
  simpa using this
 have hf:=hG1.focus.fin (dst:=some d) (s:=.d .raw (.slice (some ⟨w.heap.size,0,none⟩) m m)) (v:=.slice (some ⟨w.heap.size,0,none⟩) m m) (fun d' hd=>by cases hd;exact hnb') rfl ⟨_,rfl,rfl,rfl,rfl⟩;have hmem:(qF nt p d (none:SN) st).2.mem ((some (.slice (some ⟨w.heap.size,0,none⟩) m m,List.replicate m []):SN),st.set d (.d .raw (.slice (some ⟨w.heap.size,0,none⟩) m m))):=by
  unfold qF;rw [ea];exact ⟨_,rfl⟩
 exact hK _ hmem _ _ ⟨hfr.trans (Fr.below hbel hg.room),M',hG1.unfocus (Fr.refl _ _) hf⟩
def pV (s:HN.σ) (st:St):Bool×Outs HN :=
 match (show SN from s) with
 | some (v,xss)=>(match get st 4 with
  | .d .raw v'=>(match get st 7 with
   | .d (.int .i64) par=>(match get st 8 with
    | .d (.int .i64) x=>((st.length==47 && bL [34,35,36,37,38,39,40,41,42,43] st) && ji v v' xss par,.some [(pW v xss par x,bE [34,35,36,37,38,39,40,41,42,43] st)])
    | _=>(false,.some []))
   | _=>(false,.some []))
  | _=>(false,.some []))
 | none=>(false,.some [])
def iN:Array Oper:=bp 11 (av Tryz.f46)
theorem gQ:iN.toList.map a_=[(some 34,.move (.tmp 4),none),(some 35,.move (.tmp 7),none),(some 36,.move (.tmp 4),none),(some 37,.move (.tmp 7),none),(some 38,.indexAddr 37 (.tmp 36) (.tmp 37),none),(some 39,.load 25 (.tmp 38),none),(some 40,.move (.tmp 8),none),
 (some 41,.buildSlice 25 1 #[(0,.tmp 40)],none),(some 42,.call { callee:=.builtin .append,args := #[.tmp 39,.tmp 41],argTypes := #[25,25] },none),(some 43,.indexAddr 37 (.tmp 34) (.tmp 35),none),(none,.store 25 (.tmp 43) (.tmp 42),none)]:=by kernel_rfl
set_option maxRecDepth 8000 in
theorem Rq:bw Tryz.prog HN iN 0 10 pV:=by
 intro F M0 w0 n hI hpl Q rest s st act w hc h1 hK;unfold pV at h1;split at h1;rotate_left
 . cases h1
 rename_i v xss es;have es:s=(some (v,xss):SN):=es;subst es;split at h1;rotate_left
 . cases h1
 rename_i vD e3;obtain ⟨v',hvD⟩:∃ z:Value,z=vD:=⟨_,rfl⟩
 subst hvD;split at h1;rotate_left
 . cases h1
 rename_i parD e5;obtain ⟨par,hparD⟩:∃ par:Int,par=parD:=⟨_,rfl⟩
 subst hparD;split at h1;rotate_left
 . cases h1
 rename_i xD e4;obtain ⟨x,hxD⟩:∃ x:Int,x=xD:=⟨_,rfl⟩
 subst hxD;unfold ji at h1;simp only [Bool.and_eq_true,beq_iff_eq,decide_eq_true_eq] at h1;obtain ⟨⟨hlen,hnb⟩,hv,hin,hll⟩:=h1;have hv:=iA hv;subst hv;obtain ⟨hi0,hi1⟩:=fT.1 hin;obtain ⟨hfr,M,hG⟩:=id hc;have hg:=hG.2.1;have hsz:act.tmps.size=47:=hg.size.trans hlen;have s4:=hg.slot 4;rw [e3] at s4;have t4:tm act 4=v':=fp (show aw M w .raw (tm act 4) v' from s4);have s7:=hg.slot 7;rw [e5] at s7;have t7:tm act 7 = .int .i64 par:=fL s7;have s8:=hg.slot 8;rw [e4] at s8;have t8:tm act 8 = .int .i64 x:=fL s8;have hn:=hG.1 v' xss rfl;obtain ⟨R,hR⟩:∃ R,ag v'=some R:=by
  obtain ⟨us,hl,hown,_⟩:=hn;rcases hown.2 with ⟨rfl,h0⟩|⟨g,cap,cur,rfl,_⟩
  . omega
  . exact ⟨g,rfl⟩
 obtain ⟨cap,cur,hvv,hgR,hcs,hle,hmx,hel,_⟩:=nj hn hR;obtain ⟨ix,hix⟩:∃ ix:Nat,par=ix:=⟨par.toNat,by omega⟩
 subst hix;have hixl:ix<xss.length:=by omega
 have hpt:(ix:Int).toNat=ix:=by omega
 rw [hpt] at hll;obtain ⟨u,hu,_,hou⟩:=hel ix hixl;have hmem:(pV (some (v',xss):SN) st).2.mem ((some (v',xss.set ix (xss.getD ix []++[x])):SN),bE [34,35,36,37,38,39,40,41,42,43] st):=by
  unfold pV;dsimp only;rw [e3];dsimp only;rw [e5];dsimp only;rw [e4];dsimp only;unfold pW;rw [hpt];exact .head _
 have hK:=hK _ hmem;show wpOpsIn (aA none) n Tryz.prog iN Q ([0,1,2,3,4,5,6,7,8,9,10]++rest) act w;simp only [List.cons_append,List.nil_append];have step:∀ {i:Nat} {K:Act->World->Prop} {a:Act} {w1 w2:World} {v:Value} {d:Nat} {op:Op},(iN.toList.map a_)[i]? = some (some d,op,none)->(∀ c,op ≠ .defer c)->(∀ o:Oper,o.op=op->(execOp a.eval o).run Tryz.prog w1 = .ok (.value v) w2)->K (a.put (some d) v) w2->wpOpIn (aA none) n Tryz.prog iN Q i K a w1:=by
  intro i K a w1 w2 v d op hx hd hr hK;obtain ⟨o0,i0,d0,p0,q0⟩:=aB rfl hx;simp only at d0 p0 q0;refine aV i0 (aC q0) (fun c h=>hd c (p0.symm.trans h)) (hr o0 p0) ?_;rw [d0];exact hK
 rw [wpOpsIn_cons];refine step (d:=34) (op:=.move (.tmp 4)) (v:=v') (w2:=w) (by rw [gQ];rfl) (fun c h=>by cases h) (fun o ho=>by rw [fQ ho,t4]) ?_;rw [wpOpsIn_cons];refine step (d:=35) (op:=.move (.tmp 7)) (v:=.int .i64 ix) (w2:=w) (by rw [gQ];rfl) (fun c h=>by cases h) (fun o ho=>by rw [fQ ho,aj (by omega),t7]) ?_;rw [wpOpsIn_cons];refine step (d:=36) (op:=.move (.tmp 4)) (v:=v') (w2:=w) (by rw [gQ];rfl) (fun c h=>by cases h) (fun o ho=>by rw [fQ ho,aj (by omega),aj (by omega),t4]) ?_;rw [wpOpsIn_cons];refine step (d:=37) (op:=.move (.tmp 7)) (v:=.int .i64 ix) (w2:=w) (by rw [gQ];rfl) (fun c h=>by cases h) (fun o ho=>by rw [fQ ho,aj (by omega),aj (by omega),aj (by omega),t7]) ?_;obtain ⟨a4,ha4⟩:∃ a4,a4=(((act.put (some 34) v').put (some 35) (.int .i64 ix)).put (some 36) v').put (some 37) (.int .i64 ix):=⟨_,rfl⟩
 rw [<- ha4];have z4:a4.tmps.size=47:=by rw [ha4];simp only [aG];exact hsz
 rw [wpOpsIn_cons];refine step (d:=38) (op:=.indexAddr 37 (.tmp 36) (.tmp 37)) (v:=.pointer (some ⟨R,ix,none⟩)) (w2:=w) (by rw [gQ];rfl) (fun c h=>by cases h) (fun o ho=>?_) ?_
 . have:=tk (a:=a4) (w:=w) (T:=37) (E:=25) (e:=.list (.int .i64)) (by kernel_rfl) (by kernel_rfl) rfl ho (R:=R) (off:=0) (n:=xss.length) (cap:=cap) (i:=(ix:Int)) (by rw [ha4,aj (by omega),ay (by simp only [aG];omega)];exact hvv) (by rw [ha4,ay (by simp only [aG];omega)]) hi0 hi1;rw [hpt,Nat.zero_add] at this;exact this
 rw [wpOpsIn_cons];refine step (d:=39) (op:=.load 25 (.tmp 38)) (v:=u) (w2:=w) (by rw [gQ];rfl) (fun c h=>by cases h) (fun o ho=>jd (T:=25) (t:=.list (.int .i64)) (by kernel_rfl) rfl rfl ho (b:=R) (j:=ix) (by rw [ay (by omega)]) hgR hu) ?_;rw [wpOpsIn_cons];refine step (d:=40) (op:=.move (.tmp 8)) (v:=.int .i64 x) (w2:=w) (by rw [gQ];rfl) (fun c h=>by cases h) (fun o ho=>by rw [fQ ho,aj (by omega),aj (by omega),ha4,aj (by omega),aj (by omega),aj (by omega),aj (by omega),t8]) ?_;obtain ⟨a7,ha7⟩:∃ a7,a7=((a4.put (some 38) (.pointer (some ⟨R,ix,none⟩))).put (some 39) u).put (some 40) (.int .i64 x):=⟨_,rfl⟩
 rw [<- ha7];have z7:a7.tmps.size=47:=by rw [ha7];simp only [aG];exact z4
 rw [wpOpsIn_cons];refine step (d:=41) (op:=.buildSlice 25 1 #[(0,.tmp 40)]) (v:=.slice (some ⟨w.heap.size,0,none⟩) 1 1) (w2:=w.alloc (.cells #[.int .i64 x] 3)) (by rw [gQ];rfl) (fun c h=>by cases h) (fun o ho=>EG ho (x:=x) (by rw [ha7,ay (by simp only [aG];omega)])) ?_;obtain ⟨w1,hw1⟩:∃ w1,w1=w.alloc (.cells #[.int .i64 x] 3):=⟨_,rfl⟩
 rw [<- hw1];have hbel1:Below w.heap.size w w1:=by rw [hw1];exact (Below.refl _ w).alloc (Nat.le_refl _) _
 have hxc:w1.cell? ⟨w.heap.size,0,none⟩=some (.int .i64 x):=cj (by rw [hw1];exact heap_alloc_new w _) rfl;obtain ⟨o8,i8,d8,p8,q8⟩:=aB (ops:=iN) rfl (i:=8) (x:=(some 42,.call { callee:=.builtin .append,args := #[.tmp 39,.tmp 41],argTypes := #[25,25] },none)) (by rw [gQ];rfl);simp only at d8 p8 q8;obtain ⟨u',w2,g1,g2,g3,g4,g5,g6,M',g7⟩:=GW hG hbel1 hR hixl hll hgR hu hxc o8.type;rw [wpOpsIn_cons];refine aV (v:=u') (w':=w2) i8 (aC q8) (fun c h=>by rw [p8] at h;cases h) (EF p8 (v:=u) (b:=w.heap.size) (by rw [aj (by omega),ha7,aj (by omega),ay (by simp only [aG];omega)]) (ay (by omega)) g1) ?_;rw [d8,wpOpsIn_cons];obtain ⟨a9,ha9⟩:∃ a9,a9=(a7.put (some 41) (.slice (some ⟨w.heap.size,0,none⟩) 1 1)).put (some 42) u':=⟨_,rfl⟩
 rw [<- ha9];have z9:a9.tmps.size=47:=by rw [ha9];simp only [aG];exact z7
 refine step (d:=43) (op:=.indexAddr 37 (.tmp 34) (.tmp 35)) (v:=.pointer (some ⟨R,ix,none⟩)) (w2:=w2) (by rw [gQ];rfl) (fun c h=>by cases h) (fun o ho=>?_) ?_
 . have:=tk (a:=a9) (w:=w2) (T:=37) (E:=25) (e:=.list (.int .i64)) (by kernel_rfl) (by kernel_rfl) rfl ho (R:=R) (off:=0) (n:=xss.length) (cap:=cap) (i:=(ix:Int))
    (by rw [ha9,aj (by omega),aj (by omega),ha7,aj (by omega),aj (by omega),aj (by omega),ha4,aj (by omega),aj (by omega),aj (by omega),ay (by omega)];exact hvv)
    (by rw [ha9,aj (by omega),aj (by omega),ha7,aj (by omega),aj (by omega),aj (by omega),ha4,aj (by omega),aj (by omega),ay (by simp only [aG];omega)]) hi0 hi1
   rw [hpt,Nat.zero_add] at this;exact this
 rw [wpOpsIn_cons];obtain ⟨o10,i10,d10,p10,q10⟩:=aB (ops:=iN) rfl (i:=10) (x:=(none,.store 25 (.tmp 43) (.tmp 42),none)) (by rw [gQ];rfl);simp only at d10 p10 q10;refine iG i10 (aC q10) (fun c h=>by rw [p10] at h;cases h) (tn (T:=25) (t:=.list (.int .i64)) (by kernel_rfl) rfl p10 (b:=R) (j:=ix) (u:=u') (ay (by omega)) (by rw [aj (by omega),ha9,ay (by simp only [aG];omega)]) g3 g4 g2 (by omega)) ?_;rw [d10,gW,ha9,ha7,ha4];have hnb':bL ([(34,v'),(35,.int .i64 ix),(36,v'),(37,.int .i64 ix),(38,.pointer (some ⟨R,ix,none⟩)),(39,u),(40,.int .i64 x),(41,.slice (some ⟨w.heap.size,0,none⟩) 1 1),(42,u'),(43,.pointer (some ⟨R,ix,none⟩))].map (·.1)) st=true:=hnb;have hG2:=gc g7 [(34,v'),(35,.int .i64 ix),(36,v'),(37,.int .i64 ix),(38,.pointer (some ⟨R,ix,none⟩)),(39,u),(40,.int .i64 x),(41,.slice (some ⟨w.heap.size,0,none⟩) 1 1),(42,u'),(43,.pointer (some ⟨R,ix,none⟩))] _ act g7 hnb';exact hK _ _ ⟨hfr.trans g6,M',hG2⟩
def ru:List Spec:=[dr]
def gn:List (Nat×List Nat):=[(5,[1,4,17,18]),(9,[1,4,17,18,27,28,29])]
def oc (s:SN):List Spec:=[dr]
def Aj:Array Oper:=bp 3 (av Tryz.f46)
def vE:Nat->Option (Nat×(SN->St->Bool×Outs HN)):=fun i=>match i with|3=>some (0,qF 47 14 15)|_=>none
theorem Kc:∀ i y,vE i=some y->bw Tryz.prog HN Aj i y.1 y.2:=by
 intro i y h
 unfold vE at h
 split at h
 . cases h;exact (S' (i:=3) (by kernel_rfl)).one
 . cases h
def Ak:Array Oper:=bp 7 (av Tryz.f46)
def vF:Nat->Option (Nat×(SN->St->Bool×Outs HN)):=fun i=>match i with|2=>some (1,iH HN be preS aq 47 21 22 23 24)|_=>none
theorem Kd:∀ i y,vF i=some y->bw Tryz.prog HN Ak i y.1 y.2:=by
 intro i y h
 unfold vF at h
 split at h
 . cases h;exact B3 (i:=2) (by decide) (by decide) (by decide) (by kernel_rfl) (by kernel_rfl)
 . cases h
def vB:Nat->Option (Nat×(SN->St->Bool×Outs HN)):=fun i=>match i with|0=>some (10,pV)|_=>none
theorem Ka:∀ i y,vB i=some y->bw Tryz.prog HN iN i y.1 y.2:=by
 intro i y h
 unfold vB at h
 split at h
 . cases h;exact Rq
 . cases h
def Ai:Array Oper:=bp 14 (av Tryz.f46)
def vC:Nat->Option (Nat×(SN->St->Bool×Outs HN)):=fun i=>match i with|0=>some (0,qZ 47 4 46)|_=>none
theorem Kb:∀ i y,vC i=some y->bw Tryz.prog HN Ai i y.1 y.2:=by
 intro i y h
 unfold vC at h
 split at h
 . cases h;exact (UU (i:=0) (by kernel_rfl)).one
 . cases h
def sj:List (List Nat×HdH HN):=[([1,1,0],⟨fun {ρ} k s st=>cf Tryz.prog HN (fun s=>ah (oc s)) gn vE 3 Aj k s st⟩),
 ([1,1,1,0,1,0,0,1,1,0,0,1,0],⟨fun {ρ} k s st=>cf Tryz.prog HN (fun s=>ah (oc s)) gn vF 7 Ak k s st⟩),
 ([1,1,1,0,1,0,0,1,1,0,0,1,1,1,0,0,1,1,0,0,1],⟨fun {ρ} k s st=>cf Tryz.prog HN (fun s=>ah (oc s)) gn vB 11 iN k s st⟩),
 ([1,1,1,1,0],⟨fun {ρ} k s st=>cf Tryz.prog HN (fun s=>ah (oc s)) gn vC 14 Ai k s st⟩)]
theorem Ld (h:∀ s,∀ sp∈oc s,cT Tryz.prog HN s sp):bG Tryz.prog HN (av Tryz.f46) (sj):=(bJ (c' := .region 3 Aj false) (by kernel_rfl) (cr (fun s g sp hs=>h s sp (List.mem_filter.1 hs).1) gn Kc) (bJ (c' := .region 7 Ak false) (by kernel_rfl) (cr (fun s g sp hs=>h s sp (List.mem_filter.1 hs).1) gn Kd) (bJ (c' := .region 11 iN false) (by kernel_rfl) (cr (fun s g sp hs=>h s sp (List.mem_filter.1 hs).1) gn Ka) (bJ (c' := .region 14 Ai false) (by kernel_rfl) (cr (fun s g sp hs=>h s sp (List.mem_filter.1 hs).1) gn Kb) dU))))
def L25_1 (N:Nat) (n_L25_0:Nat) (n_L25_1:Nat) (v_3:Value) (x:aS) (t18_6:Int) (t_4:Int) (t_5:(List (Int×aE))) (t_8:Int) (t_9:(List (Int×aE))) (t29_10:Int) (xss_11:(List (List Int))):Out (SN×lr) :=
 ev Tryz.prog HN (ah ru) gn N (sj) Tryz.f46 true false rM [1,1,1,0,1,0,n_L25_0,1,1,0,0,1,1,1,0] n_L25_1 ((some (v_3,xss_11):SN)) [U,.box [.d (.int .i64) t_8,.d ba t_9],U,U,.d .raw v_3,U,U,U,U,U,U,U,U,U,U,U,U,.d (.int .i64) x.1.1,.d (.int .i64) t18_6,U,U,U,U,U,U,U,U,.d (.list (.int .i64)) (List.getD ((aq (t_4,(t_5,())) t18_6)) (0:Int).toNat ([]:List Int)),.d (.int .i64) (ae (List.getD ((aq (t_4,(t_5,())) t18_6)) (0:Int).toNat ([]:List Int))),.d (.int .i64) t29_10,U,U,U,U,U,U,U,U,U,U,U,U,U,U,U,U,U]
def L25_0 (N:Nat) (n_L25_0:Nat) (v_3:Value) (x:aS) (t_4:Int) (t_5:(List (Int×aE))) (t18_6:Int) (xss_7:(List (List Int))):Out (SN×lr) :=
 ev Tryz.prog HN (ah ru) gn N (sj) Tryz.f46 true false rM [1,1,1,0,1,0] n_L25_0 ((some (v_3,xss_7):SN)) [U,.box [.d (.int .i64) t_4,.d ba t_5],U,U,.d .raw v_3,U,U,U,U,U,U,U,U,U,U,U,U,.d (.int .i64) x.1.1,.d (.int .i64) t18_6,U,U,U,U,U,U,U,U,U,U,U,U,U,U,U,U,U,U,U,U,U,U,U,U,U,U,U,U]
theorem L25_1_succ (N:Nat) (n_L25_0:Nat) (n_L25_1:Nat) (v_3:Value) (x:aS) (t18_6:Int) (t_4:Int) (t_5:(List (Int×aE))) (t_8:Int) (t_9:(List (Int×aE))) (t29_10:Int) (xss_11:(List (List Int))):L25_1 N n_L25_0 (n_L25_1+1) v_3 x t18_6 t_4 t_5 t_8 t_9 t29_10 xss_11 =
 (match (decide (t29_10<(ae (List.getD ((aq (t_4,(t_5,())) t18_6)) (0:Int).toNat [])))) with|true=>bif (ax t29_10 (List.getD ((aq (t_4,(t_5,())) t18_6)) (0:Int).toNat []).length) then bif (ji v_3 v_3 xss_11 t29_10) then L25_1 N n_L25_0 n_L25_1 v_3 x t18_6 t_4 t_5 t_8 t_9 (IntKind.i64.wrap (t29_10+1)) ((xss_11.set (t29_10).toNat (xss_11.getD (t29_10).toNat []++[(List.getD (List.getD ((aq (t_4,(t_5,())) t18_6)) (0:Int).toNat []) t29_10.toNat 0)]))) else .fail else .fail|false=>L25_0 N n_L25_0 v_3 x t_8 t_9 (IntKind.i64.wrap (t18_6+1)) xss_11:Out (SN×lr)):=by kernel_rfl
theorem L25_0_succ (N:Nat) (n_L25_0:Nat) (v_3:Value) (x:aS) (t_4:Int) (t_5:(List (Int×aE))) (t18_6:Int) (xss_7:(List (List Int))):L25_0 N  (n_L25_0+1) v_3 x t_4 t_5 t18_6 xss_7 =
 (match (decide (t18_6<x.1.1)) with|true=>bif (preS (t_4,(t_5,())) t18_6) then bif (ax 0 ((aq (t_4,(t_5,())) t18_6)).length) then L25_1 N n_L25_0 N v_3 x t18_6 t_4 t_5 t_4 t_5 0 xss_7 else .fail else .fail|false=>bif (cK v_3 v_3) then .ret (((none:SN)),(xss_7,(0,()))) else .fail:Out (SN×lr)):=by kernel_rfl
def wy (N:Nat) (x:aS):Out (SN×lr):=match f55 (x.1,()) with | .ret r_1=>(match (!r_1) with|true=>.ret (((none:SN)),([],(2,())))|false=>bif (uF (ae x.1.2.1)) then eD fun (v_3:Value)=>L25_0 N N v_3 x x.1.1 x.1.2.1 0 ((List.replicate ((ae x.1.2.1)).toNat [])) else .fail) | .pan p=>.pan p | .fail=>.fail
theorem N4 (N:Nat) (x:aS):cD Tryz.prog HN (ah ru) gn N (sj) Tryz.f46 true false cB rM ((none:SN)) x=wy N x:=by kernel_rfl
def f25 (x:aS):Out lr:=dY (wy fuel x)
def Vn:Spec:=⟨46,.call,cB,rM,true,false,f25⟩
theorem L8:am Tryz.prog Vn:=jM (H:=HN) (none:SN) r_ (fun M w=>r9 M w) (l:=ru) (fun sp hs=>(by simp only [ru,List.mem_cons,List.not_mem_nil,or_false] at hs;rcases hs with rfl<;>first|exact dh)) Tryz.func46 rfl (Ld fun s sp hs=>.inl (by simp only [oc,List.mem_cons,List.not_mem_nil,or_false] at hs;rcases hs with rfl<;>first|exact dh)) gn fuel (N4 fuel)
end Go.V
end
