/- A part of the proof of a law of the copies. -/
import Derived.Test.YtmkbnifehdhbbabGreatDoorCW
set_option linter.all false
noncomputable section
namespace Go.V
open Go.Proofs
open Go.RowKit (Below)
theorem ex_make43' {a:Act} {w:World} {o:Oper} {p:Nat} (ho:o.op = .makeSlice 37 (.tmp p) (.tmp p)) {n:Nat} (h:tm a p = .int .i64 n) (hn:n<1000000):(execOp a.eval o).run Tryz.prog w = .ok (.value (.slice (some ⟨w.heap.size,0,none⟩) n n)) (w.alloc (.cells (madeCells #[.slice none 0 0] n) 25)):=by
 have e1:a.eval (.tmp p) = .int .i64 n:=h;have hr:=run_make (P:=Tryz.prog) (w:=w) 37 25 ((Tryz.prog.info? 25).getD default) (.slice none 0 0) (by kernel_rfl) (by kernel_rfl) (by kernel_rfl) .i64 .i64 n n (by omega) (by omega) (by rw [show ((Tryz.prog.info? 25).getD default).bytes=24 by kernel_rfl];omega) (by omega)
 rw [show ((Tryz.prog.info? 25).getD default).size=1 by kernel_rfl] at hr;simp only [execOp,ho,e1,Sem.run_bind,hr,Result.andThen_ok,Sem.run_pure,Int.toNat_natCast,Nat.mul_one];rfl
def smallB (n:Int):Bool := @decide (0<=n/\n<1000000) (Classical.propDecidable _)
theorem smallB_iff {n:Int}:smallB n=true<->0<=n/\n<1000000:=by unfold smallB;exact @decide_eq_true_iff _ (Classical.propDecidable _)
def mkN (nt p d:Nat) (s:HN.σ) (st:St):Bool×Outs HN :=
 match get st p with
 | .d (.int .i64) n=>(((st.length==nt && noBoxes [d] st) && Option.isNone (show SN from s)) && smallB (show Int from n),.each fun v=>((some (v,List.replicate (show Int from n).toNat []):SN),st.set d (.d .raw v)))
 | _=>(false,.some [])
theorem mkN_ok {ops:Array Oper} {i p d nt:Nat} (x0:(ops.toList.map opInfo)[i]? = some (some d,.makeSlice 37 (.tmp p) (.tmp p),none)):HandOp Tryz.prog HN ops i (mkN nt p d):=by
 intro F M0 w0 n hI hpl Q K s st act w hc h1 hK;obtain ⟨o0,i0,d0,p0,q0⟩:=infoAt rfl x0;simp only at d0 p0 q0;unfold mkN at h1;split at h1;rotate_left
 . cases h1
 rename_i nD ea;obtain ⟨nn,hnn⟩:∃ z:Int,z=nD:=⟨_,rfl⟩
 subst hnn;simp only [Bool.and_eq_true,beq_iff_eq] at h1;obtain ⟨⟨⟨hlen,hnb⟩,hs⟩,hin⟩:=h1;have hs:s=(none:SN):=Option.isNone_iff_eq_none.1 hs;subst hs;obtain ⟨h0,hl⟩:=smallB_iff.1 hin;obtain ⟨m,hm⟩:∃ m:Nat,nn=m:=⟨nn.toNat,by omega⟩
 subst hm;have hml:m<1000000:=by omega
 obtain ⟨hfr,M,hG⟩:=id hc;have hg:=hG.2.1;have sa:=hg.slot p;rw [ea] at sa;have tp:tm act p = .int .i64 m:=slot_int sa;refine opn_value i0 (wanted_none q0) (fun c h=>by rw [p0] at h;cases h) (ex_make43' p0 tp hml) ?_;rw [d0]
 have hbel:Below w.heap.size w (w.alloc (.cells (madeCells #[.slice none 0 0] m) 25)):=(Below.refl _ w).alloc (Nat.le_refl _) _;obtain ⟨M',hMn,hMo,hG1⟩:=nest_new hG hbel (Nat.le_refl _) (heap_alloc_new w _) (by unfold maxLen;omega)
 have hnb':isBox (get st d)=false:=by
  have:=List.all_eq_true.1 hnb d (by simp)
  simpa using this
 have hf:=hG1.focus.fin (dst:=some d) (s:=.d .raw (.slice (some ⟨w.heap.size,0,none⟩) m m)) (v:=.slice (some ⟨w.heap.size,0,none⟩) m m) (fun d' hd=>by cases hd;exact hnb') rfl ⟨_,rfl,rfl,rfl,rfl⟩;have hmem:(mkN nt p d (none:SN) st).2.mem ((some (.slice (some ⟨w.heap.size,0,none⟩) m m,List.replicate m []):SN),st.set d (.d .raw (.slice (some ⟨w.heap.size,0,none⟩) m m))):=by
  unfold mkN;rw [ea];exact ⟨_,rfl⟩
 exact hK _ hmem _ _ ⟨hfr.trans (Fr.below hbel hg.room),M',hG1.unfocus (Fr.refl _ _) hf⟩
def grow25 (s:HN.σ) (st:St):Bool×Outs HN :=
 match (show SN from s) with
 | some (v,xss)=>(match get st 4 with
  | .d .raw v'=>(match get st 7 with
   | .d (.int .i64) par=>(match get st 8 with
    | .d (.int .i64) x=>((st.length==47 && noBoxes [34,35,36,37,38,39,40,41,42,43] st) && growB v v' xss par,.some [(growS v xss par x,undAll [34,35,36,37,38,39,40,41,42,43] st)])
    | _=>(false,.some []))
   | _=>(false,.some []))
  | _=>(false,.some []))
 | none=>(false,.some [])
def r25_11:Array Oper:=regAt 11 (bodyOf Tryz.f46)
theorem info25_11:r25_11.toList.map opInfo=[(some 34,.move (.tmp 4),none),(some 35,.move (.tmp 7),none),(some 36,.move (.tmp 4),none),(some 37,.move (.tmp 7),none),(some 38,.indexAddr 37 (.tmp 36) (.tmp 37),none),(some 39,.load 25 (.tmp 38),none),(some 40,.move (.tmp 8),none),
 (some 41,.buildSlice 25 1 #[(0,.tmp 40)],none),(some 42,.call { callee:=.builtin .append,args := #[.tmp 39,.tmp 41],argTypes := #[25,25] },none),(some 43,.indexAddr 37 (.tmp 34) (.tmp 35),none),(none,.store 25 (.tmp 43) (.tmp 42),none)]:=by kernel_rfl
set_option maxRecDepth 8000 in
theorem grow25_ok:HandQ Tryz.prog HN r25_11 0 10 grow25:=by
 intro F M0 w0 n hI hpl Q rest s st act w hc h1 hK;unfold grow25 at h1;split at h1;rotate_left
 . cases h1
 rename_i v xss es;have es:s=(some (v,xss):SN):=es;subst es;split at h1;rotate_left
 . cases h1
 rename_i vD e3;obtain ⟨v',hvD⟩:∃ z:Value,z=vD:=⟨_,rfl⟩
 subst hvD;split at h1;rotate_left
 . cases h1
 rename_i parD e5;obtain ⟨par,hparD⟩:∃ par:Int,par=parD:=⟨_,rfl⟩
 subst hparD;split at h1;rotate_left
 . cases h1
 rename_i xD e4;obtain ⟨x,hxD⟩:∃ x:Int,x=xD:=⟨_,rfl⟩
 subst hxD;unfold growB at h1;simp only [Bool.and_eq_true,beq_iff_eq,decide_eq_true_eq] at h1;obtain ⟨⟨hlen,hnb⟩,hv,hin,hll⟩:=h1;have hv:=isV_eq hv;subst hv;obtain ⟨hi0,hi1⟩:=inb_iff.1 hin;obtain ⟨hfr,M,hG⟩:=id hc;have hg:=hG.2.1
 have hsz:act.tmps.size=47:=hg.size.trans hlen;have s4:=hg.slot 4;rw [e3] at s4;have t4:tm act 4=v':=repV_raw (show RepV M w .raw (tm act 4) v' from s4);have s7:=hg.slot 7;rw [e5] at s7;have t7:tm act 7 = .int .i64 par:=slot_int s7
 have s8:=hg.slot 8;rw [e4] at s8;have t8:tm act 8 = .int .i64 x:=slot_int s8;have hn:=hG.1 v' xss rfl;obtain ⟨R,hR⟩:∃ R,ownB v'=some R:=by
  obtain ⟨us,hl,hown,_⟩:=hn;rcases hown.2 with ⟨rfl,h0⟩|⟨g,cap,cur,rfl,_⟩
  . omega
  . exact ⟨g,rfl⟩
 obtain ⟨cap,cur,hvv,hgR,hcs,hle,hmx,hel,_⟩:=nest_row hn hR;obtain ⟨ix,hix⟩:∃ ix:Nat,par=ix:=⟨par.toNat,by omega⟩
 subst hix;have hixl:ix<xss.length:=by omega
 have hpt:(ix:Int).toNat=ix:=by omega
 rw [hpt] at hll;obtain ⟨u,hu,_,hou⟩:=hel ix hixl;have hmem:(grow25 (some (v',xss):SN) st).2.mem ((some (v',xss.set ix (xss.getD ix []++[x])):SN),undAll [34,35,36,37,38,39,40,41,42,43] st):=by
  unfold grow25;dsimp only;rw [e3];dsimp only;rw [e5];dsimp only;rw [e4];dsimp only;unfold growS;rw [hpt];exact .head _
 have hK:=hK _ hmem;show wpOpsIn (fen none) n Tryz.prog r25_11 Q ([0,1,2,3,4,5,6,7,8,9,10]++rest) act w;simp only [List.cons_append,List.nil_append];have step:∀ {i:Nat} {K:Act->World->Prop} {a:Act} {w1 w2:World} {v:Value} {d:Nat} {op:Op},(r25_11.toList.map opInfo)[i]? = some (some d,op,none)->(∀ c,op ≠ .defer c)->(∀ o:Oper,o.op=op->(execOp a.eval o).run Tryz.prog w1 = .ok (.value v) w2)->K (a.put (some d) v) w2->wpOpIn (fen none) n Tryz.prog r25_11 Q i K a w1:=by
  intro i K a w1 w2 v d op hx hd hr hK;obtain ⟨o0,i0,d0,p0,q0⟩:=infoAt rfl hx;simp only at d0 p0 q0;refine opn_value i0 (wanted_none q0) (fun c h=>hd c (p0.symm.trans h)) (hr o0 p0) ?_;rw [d0];exact hK
 rw [wpOpsIn_cons];refine step (d:=34) (op:=.move (.tmp 4)) (v:=v') (w2:=w) (by rw [info25_11];rfl) (fun c h=>by cases h) (fun o ho=>by rw [ex_move ho,t4]) ?_;rw [wpOpsIn_cons];refine step (d:=35) (op:=.move (.tmp 7)) (v:=.int .i64 ix) (w2:=w) (by rw [info25_11];rfl) (fun c h=>by cases h) (fun o ho=>by rw [ex_move ho,tm_put_other (by omega),t7]) ?_
 rw [wpOpsIn_cons];refine step (d:=36) (op:=.move (.tmp 4)) (v:=v') (w2:=w) (by rw [info25_11];rfl) (fun c h=>by cases h) (fun o ho=>by rw [ex_move ho,tm_put_other (by omega),tm_put_other (by omega),t4]) ?_;rw [wpOpsIn_cons]
 refine step (d:=37) (op:=.move (.tmp 7)) (v:=.int .i64 ix) (w2:=w) (by rw [info25_11];rfl) (fun c h=>by cases h) (fun o ho=>by rw [ex_move ho,tm_put_other (by omega),tm_put_other (by omega),tm_put_other (by omega),t7]) ?_
 obtain ⟨a4,ha4⟩:∃ a4,a4=(((act.put (some 34) v').put (some 35) (.int .i64 ix)).put (some 36) v').put (some 37) (.int .i64 ix):=⟨_,rfl⟩
 rw [<- ha4];have z4:a4.tmps.size=47:=by rw [ha4];simp only [size_put];exact hsz
 rw [wpOpsIn_cons];refine step (d:=38) (op:=.indexAddr 37 (.tmp 36) (.tmp 37)) (v:=.pointer (some ⟨R,ix,none⟩)) (w2:=w) (by rw [info25_11];rfl) (fun c h=>by cases h) (fun o ho=>?_) ?_
 . have:=ex_index (a:=a4) (w:=w) (T:=37) (E:=25) (e:=.list (.int .i64)) (by kernel_rfl) (by kernel_rfl) rfl ho (R:=R) (off:=0) (n:=xss.length) (cap:=cap) (i:=(ix:Int)) (by rw [ha4,tm_put_other (by omega),tm_put_same (by simp only [size_put];omega)];exact hvv) (by rw [ha4,tm_put_same (by simp only [size_put];omega)]) hi0 hi1
   rw [hpt,Nat.zero_add] at this;exact this
 rw [wpOpsIn_cons];refine step (d:=39) (op:=.load 25 (.tmp 38)) (v:=u) (w2:=w) (by rw [info25_11];rfl) (fun c h=>by cases h) (fun o ho=>ex_loadAt (T:=25) (t:=.list (.int .i64)) (by kernel_rfl) rfl rfl ho (b:=R) (j:=ix) (by rw [tm_put_same (by omega)]) hgR hu) ?_
 rw [wpOpsIn_cons];refine step (d:=40) (op:=.move (.tmp 8)) (v:=.int .i64 x) (w2:=w) (by rw [info25_11];rfl) (fun c h=>by cases h) (fun o ho=>by rw [ex_move ho,tm_put_other (by omega),tm_put_other (by omega),ha4,tm_put_other (by omega),tm_put_other (by omega),tm_put_other (by omega),tm_put_other (by omega),t8]) ?_
 obtain ⟨a7,ha7⟩:∃ a7,a7=((a4.put (some 38) (.pointer (some ⟨R,ix,none⟩))).put (some 39) u).put (some 40) (.int .i64 x):=⟨_,rfl⟩
 rw [<- ha7];have z7:a7.tmps.size=47:=by rw [ha7];simp only [size_put];exact z4
 rw [wpOpsIn_cons];refine step (d:=41) (op:=.buildSlice 25 1 #[(0,.tmp 40)]) (v:=.slice (some ⟨w.heap.size,0,none⟩) 1 1) (w2:=w.alloc (.cells #[.int .i64 x] 3)) (by rw [info25_11];rfl) (fun c h=>by cases h) (fun o ho=>ex_build27 ho (x:=x) (by rw [ha7,tm_put_same (by simp only [size_put];omega)])) ?_
 obtain ⟨w1,hw1⟩:∃ w1,w1=w.alloc (.cells #[.int .i64 x] 3):=⟨_,rfl⟩
 rw [<- hw1];have hbel1:Below w.heap.size w w1:=by rw [hw1];exact (Below.refl _ w).alloc (Nat.le_refl _) _
 have hxc:w1.cell? ⟨w.heap.size,0,none⟩=some (.int .i64 x):=cell_at (by rw [hw1];exact heap_alloc_new w _) rfl;obtain ⟨o8,i8,d8,p8,q8⟩:=infoAt (ops:=r25_11) rfl (i:=8) (x:=(some 42,.call { callee:=.builtin .append,args := #[.tmp 39,.tmp 41],argTypes := #[25,25] },none)) (by rw [info25_11];rfl)
 simp only at d8 p8 q8;obtain ⟨u',w2,g1,g2,g3,g4,g5,g6,M',g7⟩:=nest_grow hG hbel1 hR hixl hll hgR hu hxc o8.type;rw [wpOpsIn_cons];refine opn_value (v:=u') (w':=w2) i8 (wanted_none q8) (fun c h=>by rw [p8] at h;cases h) (ex_app27 p8 (v:=u) (b:=w.heap.size) (by rw [tm_put_other (by omega),ha7,tm_put_other (by omega),tm_put_same (by simp only [size_put];omega)]) (tm_put_same (by omega)) g1) ?_
 rw [d8,wpOpsIn_cons];obtain ⟨a9,ha9⟩:∃ a9,a9=(a7.put (some 41) (.slice (some ⟨w.heap.size,0,none⟩) 1 1)).put (some 42) u':=⟨_,rfl⟩
 rw [<- ha9];have z9:a9.tmps.size=47:=by rw [ha9];simp only [size_put];exact z7
 refine step (d:=43) (op:=.indexAddr 37 (.tmp 34) (.tmp 35)) (v:=.pointer (some ⟨R,ix,none⟩)) (w2:=w2) (by rw [info25_11];rfl) (fun c h=>by cases h) (fun o ho=>?_) ?_
 . have:=ex_index (a:=a9) (w:=w2) (T:=37) (E:=25) (e:=.list (.int .i64)) (by kernel_rfl) (by kernel_rfl) rfl ho (R:=R) (off:=0) (n:=xss.length) (cap:=cap) (i:=(ix:Int))
    (by rw [ha9,tm_put_other (by omega),tm_put_other (by omega),ha7,tm_put_other (by omega),tm_put_other (by omega),tm_put_other (by omega),ha4,tm_put_other (by omega),tm_put_other (by omega),tm_put_other (by omega),tm_put_same (by omega)];exact hvv)
    (by rw [ha9,tm_put_other (by omega),tm_put_other (by omega),ha7,tm_put_other (by omega),tm_put_other (by omega),tm_put_other (by omega),ha4,tm_put_other (by omega),tm_put_other (by omega),tm_put_same (by simp only [size_put];omega)]) hi0 hi1
   rw [hpt,Nat.zero_add] at this;exact this
 rw [wpOpsIn_cons];obtain ⟨o10,i10,d10,p10,q10⟩:=infoAt (ops:=r25_11) rfl (i:=10) (x:=(none,.store 25 (.tmp 43) (.tmp 42),none)) (by rw [info25_11];rfl);simp only at d10 p10 q10;refine opn_skipped i10 (wanted_none q10) (fun c h=>by rw [p10] at h;cases h) (ex_storeAt (T:=25) (t:=.list (.int .i64)) (by kernel_rfl) rfl p10 (b:=R) (j:=ix) (u:=u') (tm_put_same (by omega)) (by rw [tm_put_other (by omega),ha9,tm_put_same (by simp only [size_put];omega)]) g3 g4 g2 (by omega)) ?_
 rw [d10,put_none,ha9,ha7,ha4];have hnb':noBoxes ([(34,v'),(35,.int .i64 ix),(36,v'),(37,.int .i64 ix),(38,.pointer (some ⟨R,ix,none⟩)),(39,u),(40,.int .i64 x),(41,.slice (some ⟨w.heap.size,0,none⟩) 1 1),(42,u'),(43,.pointer (some ⟨R,ix,none⟩))].map (·.1)) st=true:=hnb
 have hG2:=undAll_ok g7 [(34,v'),(35,.int .i64 ix),(36,v'),(37,.int .i64 ix),(38,.pointer (some ⟨R,ix,none⟩)),(39,u),(40,.int .i64 x),(41,.slice (some ⟨w.heap.size,0,none⟩) 1 1),(42,u'),(43,.pointer (some ⟨R,ix,none⟩))] _ act g7 hnb'
 exact hK _ _ ⟨hfr.trans g6,M',hG2⟩
end Go.V
namespace Go.V
open Go.Proofs
def specs25:List Spec:=[sp55]
def hints25:List (Nat×List Nat):=[(5,[1,4,17,18]),(9,[1,4,17,18,27,28,29])]
def specsQ25 (s:SN):List Spec:=[sp55]
def r25_3:Array Oper:=regAt 3 (bodyOf Tryz.f46)
def D25_3:Nat->Option (Nat×(SN->St->Bool×Outs HN)):=fun i=>match i with|3=>some (0,mkN 47 14 15)|_=>none
theorem D25_3_ok:∀ i y,D25_3 i=some y->HandQ Tryz.prog HN r25_3 i y.1 y.2:=by
 intro i y h
 unfold D25_3 at h
 split at h
 . cases h;exact (mkN_ok (i:=3) (by kernel_rfl)).one
 . cases h
def r25_7:Array Oper:=regAt 7 (bodyOf Tryz.f46)
def D25_7:Nat->Option (Nat×(SN->St->Bool×Outs HN)):=fun i=>match i with|2=>some (1,pairG HN ty1 preS storT 47 21 22 23 24)|_=>none
theorem D25_7_ok:∀ i y,D25_7 i=some y->HandQ Tryz.prog HN r25_7 i y.1 y.2:=by
 intro i y h
 unfold D25_7 at h
 split at h
 . cases h;exact stor_ok (i:=2) (by decide) (by decide) (by decide) (by kernel_rfl) (by kernel_rfl)
 . cases h
def D25_11:Nat->Option (Nat×(SN->St->Bool×Outs HN)):=fun i=>match i with|0=>some (10,grow25)|_=>none
theorem D25_11_ok:∀ i y,D25_11 i=some y->HandQ Tryz.prog HN r25_11 i y.1 y.2:=by
 intro i y h
 unfold D25_11 at h
 split at h
 . cases h;exact grow25_ok
 . cases h
def r25_14:Array Oper:=regAt 14 (bodyOf Tryz.f46)
def D25_14:Nat->Option (Nat×(SN->St->Bool×Outs HN)):=fun i=>match i with|0=>some (0,relG 47 4 46)|_=>none
theorem D25_14_ok:∀ i y,D25_14 i=some y->HandQ Tryz.prog HN r25_14 i y.1 y.2:=by
 intro i y h
 unfold D25_14 at h
 split at h
 . cases h;exact (rel_ok (i:=0) (by kernel_rfl)).one
 . cases h
def T25:List (List Nat×HdH HN):=[([1,1,0],⟨fun {ρ} k s st=>regQ Tryz.prog HN (fun s=>phi (specsQ25 s)) hints25 D25_3 3 r25_3 k s st⟩),
 ([1,1,1,0,1,0,0,1,1,0,0,1,0],⟨fun {ρ} k s st=>regQ Tryz.prog HN (fun s=>phi (specsQ25 s)) hints25 D25_7 7 r25_7 k s st⟩),
 ([1,1,1,0,1,0,0,1,1,0,0,1,1,1,0,0,1,1,0,0,1],⟨fun {ρ} k s st=>regQ Tryz.prog HN (fun s=>phi (specsQ25 s)) hints25 D25_11 11 r25_11 k s st⟩),
 ([1,1,1,1,0],⟨fun {ρ} k s st=>regQ Tryz.prog HN (fun s=>phi (specsQ25 s)) hints25 D25_14 14 r25_14 k s st⟩)]
theorem allQ25 (h:∀ s,∀ sp∈specsQ25 s,CallH Tryz.prog HN s sp):AllQ Tryz.prog HN (bodyOf Tryz.f46) (T25):=(allQ_cons (c' := .region 3 r25_3 false) (by kernel_rfl) (regQ_ok (fun s g sp hs=>h s sp (List.mem_filter.1 hs).1) hints25 D25_3_ok) (allQ_cons (c' := .region 7 r25_7 false) (by kernel_rfl) (regQ_ok (fun s g sp hs=>h s sp (List.mem_filter.1 hs).1) hints25 D25_7_ok) (allQ_cons (c' := .region 11 r25_11 false) (by kernel_rfl) (regQ_ok (fun s g sp hs=>h s sp (List.mem_filter.1 hs).1) hints25 D25_11_ok) (allQ_cons (c' := .region 14 r25_14 false) (by kernel_rfl) (regQ_ok (fun s g sp hs=>h s sp (List.mem_filter.1 hs).1) hints25 D25_14_ok) allQ_nil))))
def L25_1 (N:Nat) (n_L25_0:Nat) (n_L25_1:Nat) (v_3:Value) (x:lt1) (t18_6:Int) (t_4:Int) (t_5:(List (Int×lt0))) (t_8:Int) (t_9:(List (Int×lt0))) (t29_10:Int) (xss_11:(List (List Int))):Out (SN×lt14) :=
 vloopQ Tryz.prog HN (phi specs25) hints25 N (T25) Tryz.f46 true false ty18 [1,1,1,0,1,0,n_L25_0,1,1,0,0,1,1,1,0] n_L25_1 ((some (v_3,xss_11):SN)) [U,.box [.d (.int .i64) t_8,.d ty0 t_9],U,U,.d .raw v_3,U,U,U,U,U,U,U,U,U,U,U,U,.d (.int .i64) x.1.1,.d (.int .i64) t18_6,U,U,U,U,U,U,U,U,.d (.list (.int .i64)) (List.getD ((storT (t_4,(t_5,())) t18_6)) (0:Int).toNat ([]:List Int)),.d (.int .i64) (lenI (List.getD ((storT (t_4,(t_5,())) t18_6)) (0:Int).toNat ([]:List Int))),.d (.int .i64) t29_10,U,U,U,U,U,U,U,U,U,U,U,U,U,U,U,U,U]
def L25_0 (N:Nat) (n_L25_0:Nat) (v_3:Value) (x:lt1) (t_4:Int) (t_5:(List (Int×lt0))) (t18_6:Int) (xss_7:(List (List Int))):Out (SN×lt14) :=
 vloopQ Tryz.prog HN (phi specs25) hints25 N (T25) Tryz.f46 true false ty18 [1,1,1,0,1,0] n_L25_0 ((some (v_3,xss_7):SN)) [U,.box [.d (.int .i64) t_4,.d ty0 t_5],U,U,.d .raw v_3,U,U,U,U,U,U,U,U,U,U,U,U,.d (.int .i64) x.1.1,.d (.int .i64) t18_6,U,U,U,U,U,U,U,U,U,U,U,U,U,U,U,U,U,U,U,U,U,U,U,U,U,U,U,U]
theorem L25_1_succ (N:Nat) (n_L25_0:Nat) (n_L25_1:Nat) (v_3:Value) (x:lt1) (t18_6:Int) (t_4:Int) (t_5:(List (Int×lt0))) (t_8:Int) (t_9:(List (Int×lt0))) (t29_10:Int) (xss_11:(List (List Int))):L25_1 N n_L25_0 (n_L25_1+1) v_3 x t18_6 t_4 t_5 t_8 t_9 t29_10 xss_11 =
 (match (decide (t29_10<(lenI (List.getD ((storT (t_4,(t_5,())) t18_6)) (0:Int).toNat [])))) with|true=>bif (inb t29_10 (List.getD ((storT (t_4,(t_5,())) t18_6)) (0:Int).toNat []).length) then bif (growB v_3 v_3 xss_11 t29_10) then L25_1 N n_L25_0 n_L25_1 v_3 x t18_6 t_4 t_5 t_8 t_9 (IntKind.i64.wrap (t29_10+1)) ((xss_11.set (t29_10).toNat (xss_11.getD (t29_10).toNat []++[(List.getD (List.getD ((storT (t_4,(t_5,())) t18_6)) (0:Int).toNat []) t29_10.toNat 0)]))) else .fail else .fail|false=>L25_0 N n_L25_0 v_3 x t_8 t_9 (IntKind.i64.wrap (t18_6+1)) xss_11:Out (SN×lt14)):=by kernel_rfl
theorem L25_0_succ (N:Nat) (n_L25_0:Nat) (v_3:Value) (x:lt1) (t_4:Int) (t_5:(List (Int×lt0))) (t18_6:Int) (xss_7:(List (List Int))):L25_0 N  (n_L25_0+1) v_3 x t_4 t_5 t18_6 xss_7 =
 (match (decide (t18_6<x.1.1)) with|true=>bif (preS (t_4,(t_5,())) t18_6) then bif (inb 0 ((storT (t_4,(t_5,())) t18_6)).length) then L25_1 N n_L25_0 N v_3 x t18_6 t_4 t_5 t_4 t_5 0 xss_7 else .fail else .fail|false=>bif (isV v_3 v_3) then .ret (((none:SN)),(xss_7,(0,()))) else .fail:Out (SN×lt14)):=by kernel_rfl
def F25 (N:Nat) (x:lt1):Out (SN×lt14):=match f55 (x.1,()) with | .ret r_1=>(match (!r_1) with|true=>.ret (((none:SN)),([],(2,())))|false=>bif (smallB (lenI x.1.2.1)) then allOf fun (v_3:Value)=>L25_0 N N v_3 x x.1.1 x.1.2.1 0 ((List.replicate ((lenI x.1.2.1)).toNat [])) else .fail) | .pan p=>.pan p | .fail=>.fail
theorem e25 (N:Nat) (x:lt1):vfnQ Tryz.prog HN (phi specs25) hints25 N (T25) Tryz.f46 true false ty2 ty18 ((none:SN)) x=F25 N x:=by kernel_rfl
def f25 (x:lt1):Out lt14:=dropG (F25 fuel x)
def sp25:Spec:=⟨46,.call,ty2,ty18,true,false,f25⟩
theorem c25:Contract Tryz.prog sp25:=contract_drop (H:=HN) (none:SN) HN_none (fun M w=>HN_I_none M w) (l:=specs25) (fun sp hs=>(by simp only [specs25,List.mem_cons,List.not_mem_nil,or_false] at hs;rcases hs with rfl<;>first|exact c55)) Tryz.func46 rfl (allQ25 fun s sp hs=>.inl (by simp only [specsQ25,List.mem_cons,List.not_mem_nil,or_false] at hs;rcases hs with rfl<;>first|exact c55)) hints25 fuel (e25 fuel)
end Go.V
end
