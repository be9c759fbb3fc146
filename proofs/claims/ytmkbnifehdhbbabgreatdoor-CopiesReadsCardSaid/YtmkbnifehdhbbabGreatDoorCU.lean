/- Part. -/
import Derived.Test.YtmkbnifehdhbbabGreatDoorWN
set_option linter.all false
noncomputable section
namespace Go.V
open Go.Proofs
open Go.RowKit (Below)
theorem Dx {a:Act} {d d':Nat} {u v:Value} (h:d≠d'):(a.put (some d) u).put (some d') v=(a.put (some d') v).put (some d) u:=by
 simp only [Act.put];rw [Array.setIfInBounds_comm _ _ h]
theorem JQ {w:World} {i b:Nat} {k:Option Nat}:∀ (l:List (Nat×Value)) (st:St) (a:Act),ap (bE (l.map (·.1)) st) (l.foldl (fun a p=>a.put (some p.1) p.2) a) w i k b->ap st a w i k b
 | [],st,a,h=>h
 | (d,v) :: l,st,a,h=>by
  have h1:=JQ l (st.set d .und) (a.put (some d) v) h
  by_cases hi:i=d
  . subst hi;rcases Nat.lt_or_ge i st.length with hlt|hge
    . have e:get (st.set i .und) i = .und:=by rw [bu st _ _ _ hlt,if_pos rfl]
      cases k with
      | none=>have:=h1.1;rw [e] at this;cases this
      | some k=>obtain ⟨cs,_,_,_,e',_⟩:=h1;rw [e] at e';cases e'
    . have e:get (st.set i .und) i = .und:=b7 (by simpa using hge);cases k with
      | none=>have:=h1.1;rw [e] at this;cases this
      | some k=>obtain ⟨cs,_,_,_,e',_⟩:=h1;rw [e] at e';cases e'
  . exact nu hi h1
theorem oA {j:Nat}:∀ (l:List Nat) (st:St),j ∉ l->get (bE l st) j=get st j
 | [],_,_=>rfl
 | d :: l,st,h=>by
  simp only [List.mem_cons,not_or] at h;show get (bE l (st.set d .und)) j=_;rw [oA l _ h.2,eU h.1]
theorem JP:∀ (l:List Nat) (st:St),(bE l st).length=st.length
 | [],_=>rfl
 | d :: l,st=>by
  show (bE l (st.set d .und)).length=_;rw [JP l,List.length_set]
theorem uh {l:List Nat} {st:St} (h:bL l st=true):bL l (st.map aR)=true:=by
 refine List.all_eq_true.2 fun i hi=>?_
 have:=List.all_eq_true.1 h i hi;rw [dp,qr];exact this
theorem GH (n:Nat):(madeCells #[Value.slice none 0 0] n).toList=List.replicate n (.slice none 0 0):=by
 apply List.ext_getElem
 . simp [size_madeCells]
 . intro i h1 h2;simp [madeCells,Nat.mod_one]
theorem Tf {w:World} {R n:Nat} (h:w.heap[R]? = some (.cells (madeCells #[.slice none 0 0] n) 25 (0,0))) (hm:n<=maxLen):iX w (.slice (some ⟨R,0,none⟩) n n) (List.replicate n []):=by
 refine ⟨List.replicate n (.slice none 0 0),by simp,⟨by simp,.inr ⟨R,n,_,by simp,Nat.zero_le _,h,by simp,hm,by simp [size_madeCells],?_⟩⟩,fun i u xs hu hx=>?_,fun i j u u' g hu _ hg=>?_⟩
 . rw [GH];simp
 . rw [List.getElem?_replicate] at hu hx;split at hu
   . cases hu;rename_i hi;rw [if_pos hi] at hx;cases hx;exact ⟨rfl,.inl ⟨rfl,rfl⟩⟩
   . cases hu
 . rw [List.getElem?_replicate] at hu;split at hu
   . cases hu;cases hg
   . cases hu
theorem GT {w:World} {R n b:Nat} (h:w.heap[R]? = some (.cells (madeCells #[.slice none 0 0] n) 25 (0,0))) (hb:fY (.slice (some ⟨R,0,none⟩) n n) n w b):b=R:=by
 rcases hb with hb|⟨R',j,u,hR',hj,hc,hu⟩
 . simp [ag] at hb;exact hb.symm
 . simp [ag] at hR';subst hR';rw [cell_of_row w R j _ 25 (0,0) h] at hc;have hl:(madeCells #[Value.slice none 0 0] n).toList[j]? = some u:=by simpa using hc
   rw [GH,List.getElem?_replicate] at hl;split at hl<;>first|(cases hl;cases hu;done)|(cases hl;done)
theorem GY {F:Nat->Prop} {M0:Base} {M:ai} {st:St} {a:Act} {w wc:World} (hG:bv HN F M0 (none:SN) M st a w) (hb:Below w.heap.size w wc) {R n:Nat} (hR:w.heap.size<=R) (h:wc.heap[R]? = some (.cells (madeCells #[.slice none 0 0] n) 25 (0,0))) (hm:n<=maxLen) :
 ∃ M',(∀ b o,w.heap.size<=b->b<wc.heap.size->M' b o)/\(∀ b o,M' b o->M b o\/w.heap.size<=b)/\bv HN F M0 (some (.slice (some ⟨R,0,none⟩) n n,List.replicate n []):SN) M' st a wc:=by
 obtain ⟨M',hM'⟩:∃ M':ai,M'=fun b o=>M b o\/(w.heap.size<=b/\b<wc.heap.size):=⟨_,rfl⟩
 have hI':HN.I (some (.slice (some ⟨R,0,none⟩) n n,List.replicate n []):SN) M' wc:=fun v xss e=>by cases e;exact Tf h hm
 have hbs:∀ b,HN.hb (some (.slice (some ⟨R,0,none⟩) n n,List.replicate n []):SN) wc b->b=R:=by
  rintro b ⟨v,xss,e,hb⟩;cases e;rw [List.length_replicate] at hb;exact GT h hb
 have hRlt:R<wc.heap.size:=(Array.getElem?_eq_some_iff.1 h).1;refine ⟨M',fun b o h1 h2=>(by rw [hM'];exact .inr ⟨h1,h2⟩),fun b o h=>(by rw [hM'] at h;exact h.imp id fun h=>h.1),(hG.grow (s':=(some (.slice (some ⟨R,0,none⟩) n n,List.replicate n []):SN)) (M':=M') ⟨hb.os,hb.tape,hb.output,hb.size,fun k hk=>hb.block k hk.1⟩ hI' (fun b o h=>by rw [hM'];exact .inr (.inl h)) (fun b o h=>by rw [hM'] at h;exact h)
  (fun b hb=>.inr (by rw [hbs b hb];exact hR)) fun b hb o=>by rw [hM',hbs b hb];exact .inr ⟨hR,hRlt⟩).2⟩
def iO:Array Oper:=bp 1 (av Tryz.f56)
theorem gp:iO.toList.map a_=[(some 6,.load 24 (.tmp 1),none),(some 7,.fieldAddr 24 (.tmp 1) 1,none),(some 8,.load 22 (.tmp 7),none),(some 9,.call { callee:=.builtin .len,args := #[.tmp 8],argTypes := #[22] },none),(some 10,.makeSlice 37 (.tmp 9) (.tmp 9),none),
 (some 11,.build 87 #[(0,.tmp 6),(1,.tmp 10)],none),(some 3,.alloc 87,none),(none,.store 87 (.tmp 3) (.tmp 11),none)]:=by kernel_rfl
def oP (l:List Nat):Array Bool:=l.foldl (fun L i=>L.setIfInBounds i true) (Array.replicate 8 false)
def Jf (v:Value) (p:Int) (cs:List (Int×List Int×Unit)) (st:St):St :=
 (bE [6,7,8,9,10,11] (st.map aR)).set 3 (.box [.d (.int .i64) p,.d ba cs,.d .raw v])
def rT {ρ:Type} (k:X->HN.σ->St->Out ρ) (s:HN.σ) (st:St):Out ρ :=
 match get st 1 with
 | .box [.d (.int .i64) p,.d (.list (.prod (.int .i64) (.prod (.list (.int .i64)) .unit))) cs] =>
  bif (st.length==38 && bL [3,6,7,8,9,10,11] st && Option.isNone (show SN from s)) && decide (cs.length<1000000) then eD fun v:Value=>k .normal (some (v,List.replicate cs.length []):SN) (Jf v p cs st) else .fail
 | _=>.fail
theorem EO {a:Act} {w:World} {o:Oper} (ho:o.op = .alloc 87):(execOp a.eval o).run Tryz.prog w = .ok (.value (.pointer (some ⟨w.heap.size,0,none⟩))) (w.alloc (.cells #[.int .i64 0,.slice none 0 0,.slice none 0 0] 87)):=by
 simp only [execOp,ho];simp [go_sem]
theorem EM {a:Act} {w:World} {o:Oper} (ho:o.op = .makeSlice 37 (.tmp 9) (.tmp 9)) {n:Nat} (h:tm a 9 = .int .i64 n) (hn:n<1000000):(execOp a.eval o).run Tryz.prog w = .ok (.value (.slice (some ⟨w.heap.size,0,none⟩) n n)) (w.alloc (.cells (madeCells #[.slice none 0 0] n) 25)):=by
 have e1:a.eval (.tmp 9) = .int .i64 n:=h;have hr:=run_make (P:=Tryz.prog) (w:=w) 37 25 ((Tryz.prog.info? 25).getD default) (.slice none 0 0) (by kernel_rfl) (by kernel_rfl) (by kernel_rfl) .i64 .i64 n n (by omega) (by omega) (by rw [show ((Tryz.prog.info? 25).getD default).bytes=24 by kernel_rfl];omega) (by omega);rw [show ((Tryz.prog.info? 25).getD default).size=1 by kernel_rfl] at hr;simp only [execOp,ho,e1,Sem.run_bind,hr,Result.andThen_ok,Sem.run_pure,Int.toNat_natCast,Nat.mul_one];rfl
set_option maxRecDepth 4000 in
theorem KH:h_ Tryz.prog HN (.region 1 iO true) (fun {ρ} k s st=>rT k s st):=by
 intro ρ fin hf hr F M0 w0 n hI hpl k Q hQ s st act w hc h;have h':rT k s st=fin:=h;clear h;unfold rT at h';split at h';rotate_left
 . exact absurd h'.symm hf
 rename_i p cs e1;cases hcd:((st.length==38 && bL [3,6,7,8,9,10,11] st && Option.isNone (show SN from s)) && decide (cs.length<1000000)) with
 | false=>rw [hcd] at h';exact absurd h'.symm hf
 | true =>
 rw [hcd] at h';simp only [Bool.and_eq_true,beq_iff_eq,decide_eq_true_eq] at hcd;obtain ⟨⟨⟨hlen,hnb⟩,hs⟩,hcl⟩:=hcd;have hs:s=(none:SN):=Option.isNone_iff_eq_none.1 hs;subst hs;have hall:=Dy hf (show (eD fun v:Value=>k .normal (some (v,List.replicate cs.length []):SN) (Jf v p cs st))=fin from h');obtain ⟨hfr,M,hG⟩:=id hc;have hg:=hG.2.1;have hsz:act.tmps.size=38:=hg.size.trans hlen;have s1:=hg.slot 1;rw [e1] at s1;obtain ⟨b1,T1,cells,t1,hb1,hcs,m1,hok⟩:=s1;obtain ⟨x0,x1,rfl⟩:=vg (hcs.trans rfl);have hx0:[x0]=[Value.int .i64 p]:=hok 0 _ x0 rfl rfl;have hx1:af M w ba [x1] cs:=hok 1 _ x1 rfl rfl;obtain ⟨ad,cp,hx1v,hle,_⟩:=hx1;have hx0:x0 = .int .i64 p:=by simpa using hx0
 obtain ⟨nn,hnn⟩:∃ nn:Nat,nn=List.length cs:=⟨_,rfl⟩
 have hx1v:x1 = .slice ad nn cp:=by rw [hnn];simpa using hx1v
 subst hx0;have hnl:nn<1000000:=by rw [hnn];exact hcl
 have fin:∀ (R X:Nat) (wc:World) (va vb vc vd ve:Value),Below w.heap.size w wc->R≠X->w.heap.size<=R->w.heap.size<=X->wc.heap[R]? = some (.cells (madeCells #[.slice none 0 0] nn) 25 (0,0)) ->
  wc.heap[X]? = some (.cells #[.int .i64 p,x1,.slice (some ⟨R,0,none⟩) nn nn] 87 (0,0))->Q .normal (((((((act.put (some 6) va).put (some 7) vb).put (some 8) vc).put (some 9) vd).put (some 10) (.slice (some ⟨R,0,none⟩) nn nn)).put (some 11) ve).put (some 3) (.pointer (some ⟨X,0,none⟩))) wc:=by
  intro R X wc va vb vc vd ve hbel hne hR hX hhR hhX;have hXlt:X<wc.heap.size:=(Array.getElem?_eq_some_iff.1 hhX).1;have hGd:bv HN F M0 (none:SN) M (st.map aR) act w:=⟨r9 _ _,hg.mask (by simp) (fun i=>.inr (.inl (dp st i))) fun j v hj=>(hpl j v hj).elim,fun b hb=>absurd hb (r_ w b)⟩
  obtain ⟨M',hMn,hMo,hG1⟩:=GY hGd hbel hR hhR (by unfold maxLen;omega);obtain ⟨v,hv⟩:∃ v:Value,v = .slice (some ⟨R,0,none⟩) nn nn:=⟨_,rfl⟩
  rw [<- hv] at hG1 hhX ⊢;have hnb':bL ([(6,va),(7,vb),(8,vc),(9,vd),(10,v),(11,ve)].map (·.1)) (st.map aR)=true:=by
   refine List.all_eq_true.2 fun i hi=>List.all_eq_true.1 (uh hnb) i ?_
   have:i=6\/i=7\/i=8\/i=9\/i=10\/i=11:=by simpa using hi
   simp;omega
  have hG2:=gc hG1 [(6,va),(7,vb),(8,vc),(9,vd),(10,v),(11,ve)] (st.map aR) act hG1 hnb';have hXh:¬ HN.hb (some (v,List.replicate nn []):SN) wc X:=by
   rintro ⟨v',xss,e,hb⟩;cases e;rw [List.length_replicate,hv] at hb;exact hne (GT hhR hb).symm
  have hst:aL M w M' wc:=by
   intro b o u hcb hm;refine ⟨(World.cell?_of_block (a:=⟨b,o,none⟩) (hbel.block b (c_ hcb))).trans hcb,fun h=>?_⟩;rcases hMo b o h with h|h
   . exact hm h
   . have:=c_ hcb;omega
  have hbx:=hG2.focus.put_boxX (d:=3) (X:=X) (cs:=[.d (.int .i64) p,.d ba cs,.d .raw v]) (E:=87) (by rw [JP];simp;omega)
   (by rw [oA _ _ (by simp)];have:=List.all_eq_true.1 (uh hnb) 3 (by simp);simpa using this) hhX (fun o=>hMn X o hX hXlt) (fun hF=>hF.elim (fun hF=>by have:=hg.room X hF;omega) hXh)
   (fun i k ho=>?_) (by simp [b_]) rfl (fun j c u h1 h2=>?_)
  . have hG3:=hG2.unfocus (Fr.refl _ _) hbx;refine hQ .normal _ _ _ wc ⟨hfr.trans (Fr.below hbel hg.room),M',hG3⟩ ?_;have:=hall v;rw [hnn];exact this
  . have h1:=JQ _ _ _ ho;have h2:=cM (fun i b ho'=>hbel.block b (cH hGd.2.1.slot ho')) h1;have:=cH hGd.2.1.slot h2;omega
  . match j,h1,h2 with
    | 0,h1,h2=>cases h1;cases h2;exact rfl
    | 1,h1,h2=>cases h1;cases h2;exact af.mono hst _ _ _ (hok 1 _ x1 rfl rfl)
    | 2,h1,h2=>cases h1;cases h2;exact ⟨rfl,by rw [hv];rfl,by rw [hv];rfl⟩
    | _+3,h1,_=>cases h1
 obtain ⟨S,hS⟩:∃ S:World->Prop,S=fun w'=>w'.heap[b1]? = some (.cells #[.int .i64 p,x1] T1 (0,0)):=⟨_,rfl⟩
 have hb1lt:b1<w.heap.size:=(Array.getElem?_eq_some_iff.1 hb1).1;have S0:S w.drew:=by rw [hS];exact hb1
 have nQ:∀ c a w,¬ jK Q (.panic c) a w:=fun c a w h=>h
 have ns:Region.noSelect iO=true:=by kernel_rfl
 refine yQ mixed S 7 ?_;rw [show iO.size=8 by kernel_rfl];show dI Tryz.prog iO (jK Q) S 7 8 (oP []) act w.drew;refine dy (i:=0) (d:=6) (v:=.agg #[.int .i64 p,x1]) (by rw [gp];rfl) ns (by kernel_rfl) (by kernel_rfl) (by kernel_rfl) nQ (fun o ho w' hw'=>?_) S0 ?_
 . rw [hS] at hw';have:=gr (P:=Tryz.prog) (n:=9) (T:=24) (t:=gI) (w:=w') (b:=b1) (off:=0) (us':=[]) (c1:=[.int .i64 p,x1]) (by kernel_rfl) hw' rfl rfl;have e:act.eval (.tmp 1) = .pointer (some ⟨b1,0,none⟩):=t1;simp [execOp,ho,e,Instr.loadAt,Instr.sureAddr,this,aP,Ty.agg]
 refine dy (i:=1) (d:=7) (v:=.pointer (some ⟨b1,1,none⟩)) (by rw [gp];rfl) ns (by kernel_rfl) (by kernel_rfl) (by kernel_rfl) nQ (fun o ho w' hw'=>?_) S0 ?_
 . have e:(act.put (some 6) (.agg #[.int .i64 p,x1])).eval (.tmp 1) = .pointer (some ⟨b1,0,none⟩):=by show tm _ 1=_;rw [aj (by omega)];exact t1
   simp only [execOp,ho,e];simp [go_sem]
 refine dy (i:=2) (d:=8) (v:=x1) (by rw [gp];rfl) ns (by kernel_rfl) (by kernel_rfl) (by kernel_rfl) nQ (fun o ho w' hw'=>?_) S0 ?_
 . rw [hS] at hw';exact jd (T:=22) (t:=.list mf) (by kernel_rfl) rfl rfl ho (b:=b1) (j:=1) (by rw [ay (by simp only [aG];omega)]) hw' rfl
 refine dy (i:=3) (d:=9) (v:=.int .i64 nn) (by rw [gp];rfl) ns (by kernel_rfl) (by kernel_rfl) (by kernel_rfl) nQ (fun o ho w' hw'=>?_) S0 ?_
 . exact Pr (T:=22) (E:=69) (by kernel_rfl) ho (by rw [ay (by simp only [aG];omega)];exact hx1v)
 obtain ⟨a4,ha4⟩:∃ a4,a4=(((act.put (some 6) (.agg #[.int .i64 p,x1])).put (some 7) (.pointer (some ⟨b1,1,none⟩))).put (some 8) x1).put (some 9) (.int .i64 nn):=⟨_,rfl⟩
 rw [<- ha4];have hsz4:a4.tmps.size=38:=by rw [ha4];simp only [aG];exact hsz
 have t9:tm a4 9 = .int .i64 nn:=by rw [ha4,ay (by simp only [aG];omega)]
 have t6:tm a4 6 = .agg #[.int .i64 p,x1]:=by rw [ha4,aj (by omega),aj (by omega),aj (by omega),ay (by omega)]
 have hx1o:x1.oneCell'=true/\x1.cells = #[x1]:=by rw [hx1v];exact ⟨rfl,rfl⟩
 have exb:∀ (a:Act) (o:Oper) (w':World) (R:Nat),o.op = .build 87 #[(0,.tmp 6),(1,.tmp 10)]->tm a 6 = .agg #[.int .i64 p,x1]->tm a 10 = .slice (some ⟨R,0,none⟩) nn nn->(execOp a.eval o).run Tryz.prog w' = .ok (.value (.agg #[.int .i64 p,x1,.slice (some ⟨R,0,none⟩) nn nn])) w':=fun a o w' R ho h6 h10=>by
  have e6:a.eval (.tmp 6) = .agg #[.int .i64 p,x1]:=h6;have e10:a.eval (.tmp 10) = .slice (some ⟨R,0,none⟩) nn nn:=h10;rw [hx1v] at e6 ⊢;simp only [execOp,ho,List.map_toArray,List.map_cons,List.map_nil,e6,e10];simp [go_sem]
 have exs:∀ (a:Act) (o:Oper) (w':World) (R X:Nat),o.op = .store 87 (.tmp 3) (.tmp 11)->tm a 3 = .pointer (some ⟨X,0,none⟩)->tm a 11 = .agg #[.int .i64 p,x1,.slice (some ⟨R,0,none⟩) nn nn]->w'.heap[X]? = some (.cells #[.int .i64 0,.slice none 0 0,.slice none 0 0] 87 (0,0)) ->
  (execOp a.eval o).run Tryz.prog w' = .ok .skip (w'.setRow X #[.int .i64 p,x1,.slice (some ⟨R,0,none⟩) nn nn]):=fun a o w' R X ho h3 h11 hX=>by
  have e3:a.eval (.tmp 3) = .pointer (some ⟨X,0,none⟩):=h3;have e11:a.eval (.tmp 11) = .agg #[.int .i64 p,x1,.slice (some ⟨R,0,none⟩) nn nn]:=h11;have hrun:=ki (P:=Tryz.prog) (n:=9) (T:=87) (t:=df) (by kernel_rfl) (o:=0) (v:=.agg #[.int .i64 p,x1,.slice (some ⟨R,0,none⟩) nn nn]) rfl hX (by show 0+3<=3;omega) (by
   intro u hu;have hu':u = .int .i64 p\/u=x1\/u = .slice (some ⟨R,0,none⟩) nn nn:=by simpa [Value.cells] using hu
   rcases hu' with rfl|rfl|rfl
   . rfl
   . exact hx1o.1
   . rfl)
  simp only [execOp,ho,e3,e11,Instr.storeAt,Instr.sureAddr,Sem.run_bind,Sem.run_pure,Result.andThen_ok];rw [hrun];rfl
 refine ⟨fun h0=>?_,fun i hi=>?_⟩
 . have h46:Region.ready .any iO (oP [0,1,2,3])=[4,6]:=by kernel_rfl
   have h0':Region.ready .any iO (oP [0,1,2,3])=[]:=h0;rw [h46] at h0';cases h0'
 have h46:Region.ready .any iO (oP [0,1,2,3])=[4,6]:=by kernel_rfl
 have hi0:i∈Region.ready .any iO (oP [0,1,2,3]):=hi;rw [h46] at hi0;have hi':i=4\/i=6:=by simpa using hi0
 rcases hi' with rfl|rfl
 . -- the row first
   refine FO (i:=4) (dst:=some 10) (v:=.slice (some ⟨w.drew.heap.size,0,none⟩) nn nn) (by rw [gp];rfl) (fun o ho=>EM ho t9 hnl) (.inl rfl) (fun _=>by rw [hS];exact (heap_alloc_old _ _ hb1lt).trans hb1) ?_;obtain ⟨wa,hwa⟩:∃ wa,wa=w.drew.alloc (.cells (madeCells #[.slice none 0 0] nn) 25):=⟨_,rfl⟩
   rw [<- hwa];have hRa:wa.heap[w.heap.size]? = some (.cells (madeCells #[.slice none 0 0] nn) 25 (0,0)):=by rw [hwa];exact heap_alloc_new w.drew _
   have sza:wa.heap.size=w.heap.size+1:=by rw [hwa];simp
   have Sa:S wa:=by rw [hS,hwa];exact (heap_alloc_old _ _ hb1lt).trans hb1
   refine dy (i:=5) (d:=11) (v:=.agg #[.int .i64 p,x1,.slice (some ⟨w.heap.size,0,none⟩) nn nn]) (by rw [gp];rfl) ns (by kernel_rfl) (by kernel_rfl) (by kernel_rfl) nQ (fun o ho w' hw'=>exb _ o w' w.heap.size ho (by rw [aj (by omega)];exact t6) (ay (by omega))) Sa ?_;refine iu (i:=6) (dst:=some 3) (v:=.pointer (some ⟨wa.heap.size,0,none⟩)) (by rw [gp];rfl) (by kernel_rfl) (fun o ho=>EO ho) (.inl rfl) (fun _=>by rw [hS];rw [hS] at Sa;exact (heap_alloc_old _ _ (by omega)).trans Sa) ?_;refine iu (i:=7) (dst:=none) (v:=undef) (by rw [gp];rfl) (by kernel_rfl) (fun o ho=>exs _ o _ w.heap.size wa.heap.size ho (ay (by simp only [aG];omega)) (by rw [aj (by omega),ay (by simp only [aG];omega)]) (heap_alloc_new wa _)) (.inr ⟨rfl,rfl⟩) (fun h=>absurd rfl h) ?_;refine tK (by kernel_rfl) ?_ _;rw [xI,ha4,gW];refine fin w.heap.size wa.heap.size _ _ _ _ _ _ ((Below.refl _ _).trans ?_) (by omega) (Nat.le_refl _) (by omega) ?_ (heap_alloc_new wa _)
   . have h1:Below w.heap.size w wa:=by rw [hwa];exact ((Below.refl _ _).drew).alloc (Nat.le_refl _) _
     exact h1.alloc (by omega) _
   . exact (heap_alloc_old wa _ (by omega)).trans hRa
 . -- the variable first
   refine FO (i:=6) (dst:=some 3) (v:=.pointer (some ⟨w.drew.heap.size,0,none⟩)) (by rw [gp];rfl) (fun o ho=>EO ho) (.inl rfl) (fun _=>by rw [hS];exact (heap_alloc_old _ _ hb1lt).trans hb1) ?_;obtain ⟨wa,hwa⟩:∃ wa,wa=w.drew.alloc (.cells #[.int .i64 0,.slice none 0 0,.slice none 0 0] 87):=⟨_,rfl⟩
   rw [<- hwa];have hXa:wa.heap[w.heap.size]? = some (.cells #[.int .i64 0,.slice none 0 0,.slice none 0 0] 87 (0,0)):=by rw [hwa];exact heap_alloc_new w.drew _
   have sza:wa.heap.size=w.heap.size+1:=by rw [hwa];simp
   have Sa:S wa:=by rw [hS,hwa];exact (heap_alloc_old _ _ hb1lt).trans hb1
   refine iu (i:=4) (dst:=some 10) (v:=.slice (some ⟨wa.heap.size,0,none⟩) nn nn) (by rw [gp];rfl) (by kernel_rfl) (fun o ho=>EM ho (by rw [aj (by omega)];exact t9) hnl) (.inl rfl) (fun _=>by rw [hS];rw [hS] at Sa;exact (heap_alloc_old _ _ (by omega)).trans Sa) ?_;obtain ⟨wb,hwb⟩:∃ wb,wb=wa.alloc (.cells (madeCells #[.slice none 0 0] nn) 25):=⟨_,rfl⟩
   rw [<- hwb];have hRb:wb.heap[wa.heap.size]? = some (.cells (madeCells #[.slice none 0 0] nn) 25 (0,0)):=by rw [hwb];exact heap_alloc_new wa _
   have hXb:wb.heap[w.heap.size]? = some (.cells #[.int .i64 0,.slice none 0 0,.slice none 0 0] 87 (0,0)):=by rw [hwb];exact (heap_alloc_old wa _ (by omega)).trans hXa
   have Sb:S wb:=by rw [hS,hwb];rw [hS] at Sa;exact (heap_alloc_old _ _ (by omega)).trans Sa
   refine iu (i:=5) (dst:=some 11) (v:=.agg #[.int .i64 p,x1,.slice (some ⟨wa.heap.size,0,none⟩) nn nn]) (by rw [gp];rfl) (by kernel_rfl) (fun o ho=>exb _ o wb wa.heap.size ho (by rw [aj (by omega),aj (by omega)];exact t6) (ay (by simp only [aG];omega))) (.inl rfl) (fun _=>Sb) ?_;refine iu (i:=7) (dst:=none) (v:=undef) (by rw [gp];rfl) (by kernel_rfl) (fun o ho=>exs _ o _ wa.heap.size w.heap.size ho (by rw [aj (by omega),aj (by omega),ay (by omega)];rfl) (ay (by simp only [aG];omega)) hXb) (.inr ⟨rfl,rfl⟩) (fun h=>absurd rfl h) ?_;refine tK (by kernel_rfl) ?_ _;rw [ha4,gW,Dx (d:=3) (d':=10) (by omega),Dx (d:=3) (d':=11) (by omega)];refine fin wa.heap.size w.heap.size _ _ _ _ _ _ ?_ (by omega) (by omega) (Nat.le_refl _) ?_ (lU hXb)
   . have h1:Below w.heap.size w wb:=by rw [hwb,hwa];exact (((Below.refl _ _).drew).alloc (Nat.le_refl _) _).alloc (by simp) _
     exact Fr.toBelow ⟨h1.os,h1.tape,h1.output,by rw [setRow_size];exact h1.size,fun k hk=>(setRow_other (by omega)).trans (h1.block k hk)⟩
   . exact (setRow_other (by omega)).trans hRb
open Go.RowKit (Below)
def pW (v:Value) (xss:List (List Int)) (i x:Int):SN:=some (v,xss.set i.toNat (xss.getD i.toNat []++[x]))
def ji (v v':Value) (xss:List (List Int)) (i:Int):Bool:=cK v' v && (ax i xss.length && decide ((xss.getD i.toNat []).length<1000000000))
def qZ (nt p d:Nat) (s:HN.σ) (st:St):Bool×Outs HN :=
 match (show SN from s) with
 | some (v,xss)=>(match get st p with
  | .d .raw v'=>((st.length==nt && bL [d] st) && cK v' v,.some [((none:SN),st.set d (.d (.list (.list (.int .i64))) xss))])
  | _=>(false,.some []))
 | none=>(false,.some [])
theorem UU {ops:Array Oper} {i p d nt:Nat} (x0:(ops.toList.map a_)[i]? = some (some d,.move (.tmp p),none)):dC Tryz.prog HN ops i (qZ nt p d):=by
 intro F M0 w0 n hI hpl Q K s st act w hc h1 hK;obtain ⟨o0,i0,d0,p0,q0⟩:=aB rfl x0;simp only at d0 p0 q0;unfold qZ at h1 hK;split at h1;rotate_left
 . cases h1
 rename_i v xss es;have es:s=(some (v,xss):SN):=es;subst es;split at h1;rotate_left
 . cases h1
 rename_i v' ea;simp only [Bool.and_eq_true,beq_iff_eq] at h1;obtain ⟨⟨hlen,hnb⟩,hv⟩:=h1;have hv:=iA hv;subst hv;obtain ⟨hfr,M,hG⟩:=hc;have hg:=hG.2.1;have tp:tm act p=v':=by
  have sa:=hg.slot p;rw [ea] at sa;exact fp (show aw M w .raw (tm act p) v' from sa)
 refine aV i0 (aC q0) (fun c h=>by rw [p0] at h;cases h) (fQ p0) ?_;rw [d0,tp];obtain ⟨M',hG',hrep⟩:=Tg hG;have hnb':au (get st d)=false:=by
  have:=List.all_eq_true.1 hnb d (by simp)
  simpa using this
 have hf:=hG'.focus.fin (dst:=some d) (s:=.d (.list (.list (.int .i64))) xss) (v:=v') (fun d' hd=>by cases hd;exact hnb') rfl hrep;have hmem:(qZ nt p d (some (v',xss):SN) st).2.mem ((none:SN),st.set d (.d be xss)):=by
  unfold qZ;dsimp only;rw [ea];exact .head _
 exact hK _ hmem _ _ ⟨hfr,M',hG'.unfocus (Fr.refl _ _) hf⟩
def kg:Array Oper:=bp 6 (av Tryz.f56)
theorem fk:kg.toList.map a_=[(some 22,.fieldAddr 87 (.tmp 3) 1,none),(some 23,.load 37 (.tmp 22),none),(some 24,.fieldAddr 69 (.tmp 5) 0,none),(some 25,.load 3 (.tmp 24),none),(some 26,.fieldAddr 87 (.tmp 3) 1,none),(some 27,.load 37 (.tmp 26),none),
 (some 28,.fieldAddr 69 (.tmp 5) 0,none),(some 29,.load 3 (.tmp 28),none),(some 30,.indexAddr 37 (.tmp 27) (.tmp 29),none),(some 31,.load 25 (.tmp 30),none),(some 32,.move (.tmp 4),none),(some 33,.buildSlice 25 1 #[(0,.tmp 32)],none),
 (some 34,.call { callee:=.builtin .append,args := #[.tmp 31,.tmp 33],argTypes := #[25,25] },none),(some 35,.indexAddr 37 (.tmp 23) (.tmp 25),none),(none,.store 25 (.tmp 35) (.tmp 34),none)]:=by kernel_rfl
def rU {ρ:Type} (k:X->HN.σ->St->Out ρ) (s:HN.σ) (st:St):Out ρ :=
 match (show SN from s) with
 | some (v,xss)=>(match get st 3 with
  | .box [.d (.int .i64) _,.d (.list (.prod (.int .i64) (.prod (.list (.int .i64)) .unit))) _,.d .raw v']=>(match get st 5 with
   | .box [.d (.int .i64) par,.d (.list (.int .i64)) _]=>(match get st 4 with
    | .d (.int .i64) x=>bif (st.length==38 && bL [22,23,24,25,26,27,28,29,30,31,32,33,34,35] st) && ji v v' xss par then k .normal (pW v xss par x) (bE [22,23,24,25,26,27,28,29,30,31,32,33,34,35] (st.map aR)) else .fail
    | _=>.fail)
   | _=>.fail)
  | _=>.fail)
 | none=>.fail
theorem ja {M:ai} {W:World} {st:St} {a:Act} {v:Value} {cs:List C} (h:aI M W st a v (.box cs)):∃ b T cells,v = .pointer (some ⟨b,0,none⟩)/\W.heap[b]? = some (.cells cells T (0,0))/\cells.size=cs.length /\
 ∀ (k:Nat) (c:C) (u:Value),cs[k]? = some c->cells[k]? = some u->fC M W u c:=by
 obtain ⟨b,T,cells,e1,e2,e3,_,e5⟩:=h;exact ⟨b,T,cells,e1,e2,e3,e5⟩
theorem Ei {M:ai} {W:World} {u x:Value} (h:fC M W u (.d .raw x)):u=x:=by
 have h1:[u]=[x]:=h.1
 simpa using h1
theorem kI {M:ai} {W:World} {u:Value} {x:Int} (h:fC M W u (.d (.int .i64) x)):u = .int .i64 x:=by
 have h1:[u]=[Value.int .i64 x]:=h
 simpa using h1
set_option maxRecDepth 8000 in
theorem KI:h_ Tryz.prog HN (.region 6 kg true) (fun {ρ} k s st=>rU k s st):=by
 intro ρ fin hf hr F M0 w0 n hI hpl k Q hQ s st act w hc h;have h':rU k s st=fin:=h;clear h;unfold rU at h';split at h';rotate_left
 . exact absurd h'.symm hf
 rename_i v xss es;have es:s=(some (v,xss):SN):=es;subst es;split at h';rotate_left
 . exact absurd h'.symm hf
 rename_i p0 cs0 v' e3;split at h';rotate_left
 . exact absurd h'.symm hf
 rename_i parD seen e5;obtain ⟨par,hparD⟩:∃ par:Int,par=parD:=⟨_,rfl⟩
 subst hparD;split at h';rotate_left
 . exact absurd h'.symm hf
 rename_i x e4;cases hcd:((st.length==38 && bL [22,23,24,25,26,27,28,29,30,31,32,33,34,35] st) && ji v v' xss par) with
 | false=>rw [hcd] at h';exact absurd h'.symm hf
 | true =>
 rw [hcd] at h';unfold ji at hcd;simp only [Bool.and_eq_true,beq_iff_eq,decide_eq_true_eq] at hcd;obtain ⟨⟨hlen,hnb⟩,hv,hin,hll⟩:=hcd;have hv:=iA hv;subst hv;obtain ⟨hi0,hi1⟩:=fT.1 hin;have h':k .normal (pW v' xss par x) (bE [22,23,24,25,26,27,28,29,30,31,32,33,34,35] (st.map aR))=fin:=h';obtain ⟨N0,hpn,hcl,hback⟩:=hc.lift;obtain ⟨hfr,M,hG⟩:=hback _ _ _ hcl.drop;have hg:=hG.2.1;have hsz:act.tmps.size=38:=hg.size.trans (by simp;exact hlen);have s3:=hg.slot 3;rw [dp,e3] at s3;obtain ⟨bX,TX,cX,t3,hbX,hcX,hokX⟩:=ja s3;obtain ⟨x0,x1,x2,rfl⟩:=B' (hcX.trans rfl);have hx2:x2=v':=Ei (hokX 2 _ x2 rfl rfl);subst hx2;have s5:=hg.slot 5;rw [dp,e5] at s5;obtain ⟨b5,T5,c5,t5,hb5,hc5,hok5⟩:=ja s5;obtain ⟨y0,y1,rfl⟩:=vg (hc5.trans rfl);have hy0:y0 = .int .i64 par:=kI (hok5 0 _ y0 rfl rfl);subst hy0;have s4:=hg.slot 4;rw [dp,e4] at s4;have t4:tm act 4 = .int .i64 x:=fL s4;have hn:=hG.1 x2 xss rfl;obtain ⟨R,hR⟩:∃ R,ag x2=some R:=by
  obtain ⟨us,hl,hown,_⟩:=hn;rcases hown.2 with ⟨rfl,h0⟩|⟨g,cap,cur,rfl,_⟩
  . omega
  . exact ⟨g,rfl⟩
 obtain ⟨cap,cur,hvv,hgR,hcs,hle,hmx,hel,_⟩:=nj hn hR;obtain ⟨ix,hix⟩:∃ ix:Nat,par=ix:=⟨par.toNat,by omega⟩
 subst hix;have hixl:ix<xss.length:=by omega
 have hpt:(ix:Int).toNat=ix:=by omega
 rw [hpt] at hll;obtain ⟨u,hu,_,hou⟩:=hel ix hixl;have hXo:ap (st.map aR) act w 3 none bX:=⟨by rw [dp,e3];rfl,by rw [t3];rfl⟩
 have h5o:ap (st.map aR) act w 5 none b5:=⟨by rw [dp,e5];rfl,by rw [t5];rfl⟩
 have hXh:¬ HN.hb (some (x2,xss):SN) w bX:=fun hB=>(hG.2.2 bX hB).2.2 3 none hXo
 have h5h:¬ HN.hb (some (x2,xss):SN) w b5:=fun hB=>(hG.2.2 b5 hB).2.2 5 none h5o
 have lX:bX<w.heap.size:=(Array.getElem?_eq_some_iff.1 hbX).1;have l5:b5<w.heap.size:=(Array.getElem?_eq_some_iff.1 hb5).1;have lR:R<w.heap.size:=(Array.getElem?_eq_some_iff.1 hgR).1;obtain ⟨S,hS⟩:∃ S:World->Prop,S=fun w'=>w'.heap[bX]? = some (.cells #[x0,x1,x2] TX (0,0))/\w'.heap[b5]? = some (.cells #[.int .i64 ix,y1] T5 (0,0))/\w'.heap[R]? = some (.cells cur 25 (0,0)):=⟨_,rfl⟩
 have S0:S w.drew:=by rw [hS];exact ⟨hbX,hb5,hgR⟩
 have nQ:∀ c a w,¬ jK Q (.panic c) a w:=fun c a w h=>h
 have ns:Region.noSelect kg=true:=by kernel_rfl
 refine yQ mixed S 14 ?_;rw [show kg.size=15 by kernel_rfl];show dI Tryz.prog kg (jK Q) S 14 15 ((Array.replicate 15 false)) act w.drew;refine dy (i:=0) (d:=22) (v:=.pointer (some ⟨bX,2,none⟩)) (by rw [fk];rfl) ns (by kernel_rfl) (by kernel_rfl) (by kernel_rfl) nQ (fun o ho w' hw'=>?_) S0 ?_
 . have e:act.eval (.tmp 3) = .pointer (some ⟨bX,0,none⟩):=t3;simp only [execOp,ho,e];simp [go_sem]
 obtain ⟨a0,ha0⟩:∃ a0,a0=act.put (some 22) (.pointer (some ⟨bX,2,none⟩)):=⟨_,rfl⟩
 rw [<- ha0];have z0:a0.tmps.size=38:=by rw [ha0,aG];exact hsz
 refine dy (i:=1) (d:=23) (v:=x2) (by rw [fk];rfl) ns (by kernel_rfl) (by kernel_rfl) (by kernel_rfl) nQ (fun o ho w' hw'=>?_) S0 ?_
 . rw [hS] at hw';exact jd (T:=37) (t:=.list (.list (.int .i64))) (by kernel_rfl) rfl rfl ho (b:=bX) (j:=2) (by rw [ha0,ay (by omega)]) hw'.1 rfl
 refine dy (i:=2) (d:=24) (v:=.pointer (some ⟨b5,0,none⟩)) (by rw [fk];rfl) ns (by kernel_rfl) (by kernel_rfl) (by kernel_rfl) nQ (fun o ho w' hw'=>?_) S0 ?_
 . have e:(a0.put (some 23) x2).eval (.tmp 5) = .pointer (some ⟨b5,0,none⟩):=by show tm _ 5=_;rw [aj (by omega),ha0,aj (by omega)];exact t5
   simp only [execOp,ho,e];simp [go_sem]
 obtain ⟨a2,ha2⟩:∃ a2,a2=(a0.put (some 23) x2).put (some 24) (.pointer (some ⟨b5,0,none⟩)):=⟨_,rfl⟩
 rw [<- ha2];have z2:a2.tmps.size=38:=by rw [ha2];simp only [aG];exact z0
 refine dy (i:=3) (d:=25) (v:=.int .i64 ix) (by rw [fk];rfl) ns (by kernel_rfl) (by kernel_rfl) (by kernel_rfl) nQ (fun o ho w' hw'=>?_) S0 ?_
 . rw [hS] at hw';exact jd (T:=3) (t:=.int .i64) (by kernel_rfl) rfl rfl ho (b:=b5) (j:=0) (by rw [ha2,ay (by simp only [aG];omega)]) hw'.2.1 rfl
 refine dy (i:=4) (d:=26) (v:=.pointer (some ⟨bX,2,none⟩)) (by rw [fk];rfl) ns (by kernel_rfl) (by kernel_rfl) (by kernel_rfl) nQ (fun o ho w' hw'=>?_) S0 ?_
 . have e:(a2.put (some 25) (.int .i64 ix)).eval (.tmp 3) = .pointer (some ⟨bX,0,none⟩):=by show tm _ 3=_;rw [aj (by omega),ha2,aj (by omega),aj (by omega),ha0,aj (by omega)];exact t3
   simp only [execOp,ho,e];simp [go_sem]
 obtain ⟨a4,ha4⟩:∃ a4,a4=(a2.put (some 25) (.int .i64 ix)).put (some 26) (.pointer (some ⟨bX,2,none⟩)):=⟨_,rfl⟩
 rw [<- ha4];have z4:a4.tmps.size=38:=by rw [ha4];simp only [aG];exact z2
 refine dy (i:=5) (d:=27) (v:=x2) (by rw [fk];rfl) ns (by kernel_rfl) (by kernel_rfl) (by kernel_rfl) nQ (fun o ho w' hw'=>?_) S0 ?_
 . rw [hS] at hw';exact jd (T:=37) (t:=.list (.list (.int .i64))) (by kernel_rfl) rfl rfl ho (b:=bX) (j:=2) (by rw [ha4,ay (by simp only [aG];omega)]) hw'.1 rfl
 refine dy (i:=6) (d:=28) (v:=.pointer (some ⟨b5,0,none⟩)) (by rw [fk];rfl) ns (by kernel_rfl) (by kernel_rfl) (by kernel_rfl) nQ (fun o ho w' hw'=>?_) S0 ?_
 . have e:(a4.put (some 27) x2).eval (.tmp 5) = .pointer (some ⟨b5,0,none⟩):=by show tm _ 5=_;rw [aj (by omega),ha4,aj (by omega),aj (by omega),ha2,aj (by omega),aj (by omega),ha0,aj (by omega)];exact t5
   simp only [execOp,ho,e];simp [go_sem]
 obtain ⟨a6,ha6⟩:∃ a6,a6=(a4.put (some 27) x2).put (some 28) (.pointer (some ⟨b5,0,none⟩)):=⟨_,rfl⟩
 rw [<- ha6];have z6:a6.tmps.size=38:=by rw [ha6];simp only [aG];exact z4
 refine dy (i:=7) (d:=29) (v:=.int .i64 ix) (by rw [fk];rfl) ns (by kernel_rfl) (by kernel_rfl) (by kernel_rfl) nQ (fun o ho w' hw'=>?_) S0 ?_
 . rw [hS] at hw';exact jd (T:=3) (t:=.int .i64) (by kernel_rfl) rfl rfl ho (b:=b5) (j:=0) (by rw [ha6,ay (by simp only [aG];omega)]) hw'.2.1 rfl
 refine dy (i:=8) (d:=30) (v:=.pointer (some ⟨R,ix,none⟩)) (by rw [fk];rfl) ns (by kernel_rfl) (by kernel_rfl) (by kernel_rfl) nQ (fun o ho w' hw'=>?_) S0 ?_
 . have:=tk (a:=a6.put (some 29) (.int .i64 ix)) (w:=w') (T:=37) (E:=25) (e:=.list (.int .i64)) (by kernel_rfl) (by kernel_rfl) rfl ho (R:=R) (off:=0) (n:=xss.length) (cap:=cap) (i:=(ix:Int)) (by rw [aj (by omega),ha6,aj (by omega),ay (by omega)];exact hvv) (ay (by omega)) hi0 hi1;rw [hpt,Nat.zero_add] at this;exact this
 obtain ⟨a8,ha8⟩:∃ a8,a8=(a6.put (some 29) (.int .i64 ix)).put (some 30) (.pointer (some ⟨R,ix,none⟩)):=⟨_,rfl⟩
 rw [<- ha8];have z8:a8.tmps.size=38:=by rw [ha8];simp only [aG];exact z6
 refine dy (i:=9) (d:=31) (v:=u) (by rw [fk];rfl) ns (by kernel_rfl) (by kernel_rfl) (by kernel_rfl) nQ (fun o ho w' hw'=>?_) S0 ?_
 . rw [hS] at hw';exact jd (T:=25) (t:=.list (.int .i64)) (by kernel_rfl) rfl rfl ho (b:=R) (j:=ix) (by rw [ha8,ay (by simp only [aG];omega)]) hw'.2.2 hu
 refine dy (i:=10) (d:=32) (v:=.int .i64 x) (by rw [fk];rfl) ns (by kernel_rfl) (by kernel_rfl) (by kernel_rfl) nQ (fun o ho w' hw'=>?_) S0 ?_
 . have:=fQ (a:=a8.put (some 31) u) (w:=w') ho;rw [this,aj (by omega),ha8,aj (by omega),aj (by omega),ha6,aj (by omega),aj (by omega),ha4,aj (by omega),aj (by omega),ha2,aj (by omega),aj (by omega),ha0,aj (by omega),t4]
 obtain ⟨a10,ha10⟩:∃ a10,a10=(a8.put (some 31) u).put (some 32) (.int .i64 x):=⟨_,rfl⟩
 rw [<- ha10];have z10:a10.tmps.size=38:=by rw [ha10];simp only [aG];exact z8
 refine iu (i:=11) (dst:=some 33) (v:=.slice (some ⟨w.drew.heap.size,0,none⟩) 1 1) (by rw [fk];rfl) (by kernel_rfl) (fun o ho=>EG ho (x:=x) (by rw [ha10,ay (by simp only [aG];omega)])) (.inl rfl) (fun _=>by rw [hS];exact ⟨(heap_alloc_old _ _ lX).trans hbX,(heap_alloc_old _ _ l5).trans hb5,(heap_alloc_old _ _ lR).trans hgR⟩) ?_;obtain ⟨w1,hw1⟩:∃ w1,w1=w.drew.alloc (.cells #[.int .i64 x] 3):=⟨_,rfl⟩
 rw [<- hw1];have hbel1:Below w.heap.size w w1:=by rw [hw1];exact ((Below.refl _ _).drew).alloc (Nat.le_refl _) _
 have hxc:w1.cell? ⟨w.heap.size,0,none⟩=some (.int .i64 x):=cj (by rw [hw1];exact heap_alloc_new w.drew _) rfl;obtain ⟨o12,hi12,hd12,ho12,hg12⟩:=aB (ops:=kg) rfl (i:=12) (x:=(some 34,.call { callee:=.builtin .append,args := #[.tmp 31,.tmp 33],argTypes := #[25,25] },none)) (by rw [fk];rfl);obtain ⟨u',w2,g1,g2,g3,g4,g5,g6,M',g7⟩:=GW hG hbel1 hR hixl hll hgR hu hxc o12.type;have S2:S w2:=by rw [hS];exact ⟨(g5 bX lX hXh).trans hbX,(g5 b5 l5 h5h).trans hb5,g2⟩
 refine FP (v:=u') (w':=w2) hi12 hd12 hg12 (by kernel_rfl) (EF ho12 (v:=u) (b:=w.heap.size) (by rw [aj (by omega),ha10,aj (by omega),ay (by omega)]) (ay (by omega)) g1) (.inl rfl) (fun _=>S2) ?_;show dI Tryz.prog kg (jK Q) S 14 2 _ ((a10.put (some 33) (.slice (some ⟨w.drew.heap.size,0,none⟩) 1 1)).put (some 34) u') w2;refine dy (i:=13) (d:=35) (v:=.pointer (some ⟨R,ix,none⟩)) (by rw [fk];rfl) ns (by kernel_rfl) (by kernel_rfl) (by kernel_rfl) nQ (fun o ho w' hw'=>?_) S2 ?_
 . have:=tk (a:=(a10.put (some 33) (.slice (some ⟨w.drew.heap.size,0,none⟩) 1 1)).put (some 34) u') (w:=w') (T:=37) (E:=25) (e:=.list (.int .i64)) (by kernel_rfl) (by kernel_rfl) rfl ho (R:=R) (off:=0) (n:=xss.length) (cap:=cap) (i:=(ix:Int))
    (by rw [aj (by omega),aj (by omega),ha10,aj (by omega),aj (by omega),ha8,aj (by omega),aj (by omega),ha6,aj (by omega),aj (by omega),ha4,aj (by omega),aj (by omega),ha2,aj (by omega),ay (by omega)];exact hvv)
    (by rw [aj (by omega),aj (by omega),ha10,aj (by omega),aj (by omega),ha8,aj (by omega),aj (by omega),ha6,aj (by omega),aj (by omega),ha4,aj (by omega),ay (by omega)]) hi0 hi1
   rw [hpt,Nat.zero_add] at this;exact this
 refine iu (i:=14) (dst:=none) (v:=undef) (by rw [fk];rfl) (by kernel_rfl) (fun o ho=>tn (T:=25) (t:=.list (.int .i64)) (by kernel_rfl) rfl ho (b:=R) (j:=ix) (ay (by simp only [aG];omega)) (by rw [aj (by omega),ay (by simp only [aG];omega)]) g3 g4 g2 (by omega)) (.inr ⟨rfl,rfl⟩) (fun h=>absurd rfl h) ?_;refine tK (by kernel_rfl) ?_ _;rw [gW,ha10,ha8,ha6,ha4,ha2,ha0];have hnb':bL ([(22,Value.pointer (some ⟨bX,2,none⟩)),(23,x2),(24,.pointer (some ⟨b5,0,none⟩)),(25,.int .i64 ix),(26,.pointer (some ⟨bX,2,none⟩)),(27,x2),(28,.pointer (some ⟨b5,0,none⟩)),(29,.int .i64 ix),(30,.pointer (some ⟨R,ix,none⟩)),(31,u),(32,.int .i64 x),(33,.slice (some ⟨w.drew.heap.size,0,none⟩) 1 1),(34,u'),(35,.pointer (some ⟨R,ix,none⟩))].map (·.1)) (st.map aR)=true:=uh hnb;have hG2:=gc g7 [(22,Value.pointer (some ⟨bX,2,none⟩)),(23,x2),(24,.pointer (some ⟨b5,0,none⟩)),(25,.int .i64 ix),(26,.pointer (some ⟨bX,2,none⟩)),(27,x2),(28,.pointer (some ⟨b5,0,none⟩)),(29,.int .i64 ix),(30,.pointer (some ⟨R,ix,none⟩)),(31,u),(32,.int .i64 x),(33,.slice (some ⟨w.drew.heap.size,0,none⟩) 1 1),(34,u'),(35,.pointer (some ⟨R,ix,none⟩))] _ act g7 hnb';refine hQ .normal _ _ _ _ ⟨hfr.trans g6,M',hG2⟩ ?_;unfold pW at h';rw [hpt] at h';exact h'
open Go.RowKit (Below)
def q_ (nt p d:Nat) (s:HN.σ) (st:St):Bool×Outs HN :=
 match (show SN from s) with
 | some (v,xss)=>(match get st p with
  | .box [.d (.int .i64) a,.d (.list (.prod (.int .i64) (.prod (.list (.int .i64)) .unit))) b,.d .raw v']=>((st.length==nt && bL [d] st) && cK v' v,.some [((none:SN),st.set d (.d df ((a,(b,())),(xss,()))))])
  | _=>(false,.some []))
 | none=>(false,.some [])
theorem UT {ops:Array Oper} {i p d nt:Nat} (x0:(ops.toList.map a_)[i]? = some (some d,.load 87 (.tmp p),none)):dC Tryz.prog HN ops i (q_ nt p d):=by
 intro F M0 w0 n hI hpl Q K s st act w hc h1 hK
 obtain ⟨o0,i0,d0,p0,q0⟩:=aB rfl x0
 simp only at d0 p0 q0
 unfold q_ at h1 hK
 split at h1
 rotate_left
 . cases h1
 rename_i v xss es
 have es:s=(some (v,xss):SN):=es
 subst es
 split at h1
 rotate_left
 . cases h1
 rename_i aD b v' ea
 obtain ⟨a,ha⟩:∃ a:Int,a=aD:=⟨_,rfl⟩
 subst ha
 simp only [Bool.and_eq_true,beq_iff_eq] at h1
 obtain ⟨⟨hlen,hnb⟩,hv⟩:=h1
 have hv:=iA hv
 subst hv
 obtain ⟨hfr,M,hG⟩:=hc
 have hg:=hG.2.1
 have sp:=hg.slot p
 rw [ea] at sp
 obtain ⟨bX,TX,cX,tp,hbX,hcX,hokX⟩:=ja sp
 obtain ⟨x0',x1,x2,rfl⟩:=B' (hcX.trans rfl)
 have hx2:x2=v':=Ei (hokX 2 _ x2 rfl rfl)
 subst hx2
 have hx0:x0' = .int .i64 a:=kI (hokX 0 _ x0' rfl rfl)
 subst hx0
 have hx1:af M w ba [x1] b:=hokX 1 _ x1 rfl rfl
 have hrun:(execOp act.eval o0).run Tryz.prog w = .ok (.value (.agg #[.int .i64 a,x1,x2])) w:=by
  have:=gr (P:=Tryz.prog) (n:=9) (T:=87) (t:=df) (w:=w) (b:=bX) (off:=0) (us':=[]) (c1:=[.int .i64 a,x1,x2]) (by kernel_rfl) hbX rfl rfl
  have e:act.eval (.tmp p) = .pointer (some ⟨bX,0,none⟩):=tp
  simp [execOp,p0,e,Instr.loadAt,Instr.sureAddr,this,aP,Ty.agg]
 refine aV i0 (aC q0) (fun c h=>by rw [p0] at h;cases h) hrun ?_
 rw [d0]
 obtain ⟨M',hG',hrep,hst⟩:=GZ hG
 have hnb':au (get st d)=false:=by
  have:=List.all_eq_true.1 hnb d (by simp)
  simpa using this
 have hx1':af M' w ba [x1] b:=af.mono hst _ _ _ hx1
 have hrepT:aw M' w df (.agg #[.int .i64 a,x1,x2]) ((a,(b,())),(xss,())):=by
  obtain ⟨cs,e1,e2⟩:=hrep
  have hl:=af.length _ _ _ e2
  match cs,e1,e2,hl with
  | [y],e1,e2,_ =>
   have e1:x2=y:=e1
   subst e1
   exact ⟨[.int .i64 a,x1,x2],rfl,[.int .i64 a,x1],[x2],rfl,⟨[.int .i64 a],[x1],rfl,rfl,⟨[x1],[],rfl,hx1',rfl⟩⟩,⟨[x2],[],rfl,e2,rfl⟩⟩
 have hf:=hG'.focus.fin (dst:=some d) (s:=.d df ((a,(b,())),(xss,()))) (v:=.agg #[.int .i64 a,x1,x2]) (fun d' hd=>by cases hd;exact hnb') rfl hrepT
 have hmem:(q_ nt p d (some (x2,xss):SN) st).2.mem ((none:SN),st.set d (.d df ((a,(b,())),(xss,())))):=by
  unfold q_
  dsimp only
  rw [ea]
  exact .head _
 exact hK _ hmem _ _ ⟨hfr,M',hG'.unfocus (Fr.refl _ _) hf⟩
def BE:List Spec:=[]
def p_:List (Nat×List Nat):=[(3,[2,3,13,14,15])]
def Jb (s:SN):List Spec:=[]
def Ap:Array Oper:=bp 8 (av Tryz.f56)
def vN:Nat->Option (Nat×(SN->St->Bool×Outs HN)):=fun i=>match i with|0=>some (0,q_ 38 3 37)|_=>none
theorem Kn:∀ i y,vN i=some y->bw Tryz.prog HN Ap i y.1 y.2:=by
 intro i y h
 unfold vN at h
 split at h
 . cases h;exact (UT (i:=0) (by kernel_rfl)).one
 . cases h
def xt:List (List Nat×HdH HN):=[([1,0],⟨fun {ρ} k s st=>rT k s st⟩),
 ([1,1,0,1,0,0,1,1,0,0,1,1,0],⟨fun {ρ} k s st=>rU k s st⟩),
 ([1,1,1,0],⟨fun {ρ} k s st=>cf Tryz.prog HN (fun s=>ah (Jb s)) p_ vN 8 Ap k s st⟩)]
theorem Lj (h:∀ s,∀ sp∈Jb s,cT Tryz.prog HN s sp):bG Tryz.prog HN (av Tryz.f56) (xt):=(bJ (c' := .region 1 iO true) (by kernel_rfl) KH (bJ (c' := .region 6 kg true) (by kernel_rfl) KI (bJ (c' := .region 8 Ap false) (by kernel_rfl) (cr (fun s g sp hs=>h s sp (List.mem_filter.1 hs).1) p_ Kn) dU)))
def L58_0 (N:Nat) (n_L58_0:Nat) (v:Value) (x:aS) (t2_1:Int) (t2_2:(List (Int×aE))) (t2_3:(List (List Int))) (x_4:Int) (x_5:(List (Int×aE))) (t15_6:Int) (xss_7:(List (List Int))):Out (SN×cG) :=
 ev Tryz.prog HN (ah BE) p_ N (xt) Tryz.f56 false false ef [1,1,0,1,0] n_L58_0 ((some (v,xss_7):SN)) [U,U,.box [.d (.int .i64) t2_1,.own mf t2_2 false,.own (.list (.int .i64)) t2_3 false],.box [.d (.int .i64) x_4,.d ba x_5,.d .raw v],U,U,U,U,U,U,U,U,U,.d ba x.1.2.1,.d (.int .i64) (ae x.1.2.1),.d (.int .i64) t15_6,U,U,U,U,U,U,U,U,U,U,U,U,U,U,U,U,U,U,U,U,U,U]
theorem L58_0_succ (N:Nat) (n_L58_0:Nat) (v:Value) (x:aS) (t2_1:Int) (t2_2:(List (Int×aE))) (t2_3:(List (List Int))) (x_4:Int) (x_5:(List (Int×aE))) (t15_6:Int) (xss_7:(List (List Int))):L58_0 N  (n_L58_0+1) v x t2_1 t2_2 t2_3 x_4 x_5 t15_6 xss_7 =
 (match (decide (t15_6<(ae x.1.2.1))) with|true=>bif (ax t15_6 x.1.2.1.length) then match (decide (t15_6 > 0)) with|true=>bif (ji v v xss_7 ((List.getD x.1.2.1 t15_6.toNat (0,([],())))).1) then L58_0 N n_L58_0 v x t2_1 t2_2 t2_3 x_4 x_5 (IntKind.i64.wrap (t15_6+1)) ((xss_7.set (((List.getD x.1.2.1 t15_6.toNat (0,([],())))).1).toNat (xss_7.getD (((List.getD x.1.2.1 t15_6.toNat (0,([],())))).1).toNat []++[t15_6]))) else .fail|false=>L58_0 N n_L58_0 v x t2_1 t2_2 t2_3 x_4 x_5 (IntKind.i64.wrap (t15_6+1)) xss_7 else .fail|false=>bif (cK v v) then .ret (((none:SN)),((x_4,(x_5,())),(xss_7,()))) else .fail:Out (SN×cG)):=by kernel_rfl
def wN (N:Nat) (x:aS):Out (SN×cG):=bif (decide (x.1.2.1.length<1000000)) then eD fun (v:Value)=>L58_0 N N v x 0 ([]:List (Int×aE)) [] x.1.1 x.1.2.1 0 ((List.replicate x.1.2.1.length [])) else .fail
theorem Oj (N:Nat) (x:aS):cD Tryz.prog HN (ah BE) p_ N (xt) Tryz.f56 false false cB ef ((none:SN)) x=wN N x:=by kernel_rfl
abbrev gg:Type:=Int×List Int×Unit
def eW:List gg->Nat->List (List Int)->List (List Int)
 | [],_,xss=>xss
 | c :: cs,i,xss=>eW cs (i+1) (if 0<i then xss.set c.1.toNat (xss.getD c.1.toNat []++[(i:Int)]) else xss)
def jq (cs:List gg):List (List Int):=eW cs 0 (List.replicate cs.length [])
def sf (cs:List gg):Prop:=∀ (j:Nat) c,cs[j]? = some c->0<j->0<=c.1/\c.1<cs.length
open Classical in
noncomputable def f58 (x:ac×Unit):Out TR:=if x.1.2.1.length<1000000/\sf x.1.2.1 then .ret (x.1,(jq x.1.2.1,())) else .fail
def fw:Spec:=⟨56,.call,.prod gI .unit,df,false,false,f58⟩
theorem FI {v:Value} {xss:List (List Int)} {i:Int} (h:0<=i/\i<xss.length) (h2:(xss.getD i.toNat []).length<1000000000):ji v v xss i=true:=by
 unfold ji
 rw [fV,fT.2 h,decide_eq_true h2]
 rfl
theorem RJ (v:Value):cK v v=true:=fV v
theorem L58_eq {N:Nat} {v:Value} {x:ac×Unit} {y1:Int} {y2:List gg} {y3:List (List Int)} (hn:x.1.2.1.length<1000000) (hp:sf x.1.2.1):∀ (k i n:Nat) (xss:List (List Int)),i+k=x.1.2.1.length->k<n->xss.length=x.1.2.1.length->(∀ r∈xss,r.length<=i) ->
 L58_0 N n v x y1 y2 y3 x.1.1 x.1.2.1 i xss = .ret ((none:SN),((x.1.1,(x.1.2.1,())),(eW (x.1.2.1.drop i) i xss,()))):=by
 intro k
 induction k with
 | zero =>
  intro i n xss hi hn' hl hr
  obtain ⟨n,rfl⟩:∃ m,n=m+1:=⟨n - 1,by omega⟩
  rw [L58_0_succ]
  have h1:decide ((i:Int)<ae x.1.2.1)=false:=by
   rw [decide_eq_false_iff_not]
   unfold ae
   omega
  rw [h1]
  dsimp only
  rw [RJ,List.drop_eq_nil_of_le (by omega)]
  rfl
 | succ k ih =>
  intro i n xss hi hn' hl hr
  obtain ⟨n,rfl⟩:∃ m,n=m+1:=⟨n - 1,by omega⟩
  have hil:i<x.1.2.1.length:=by omega
  rw [L58_0_succ]
  have h1:decide ((i:Int)<ae x.1.2.1)=true:=by
   rw [decide_eq_true_eq]
   unfold ae
   omega
  have h2:ax (i:Int) x.1.2.1.length=true:=fT.2 ⟨by omega,by omega⟩
  rw [h1]
  dsimp only
  rw [h2,cond_true]
  have hw:IntKind.i64.wrap ((i:Int)+1)=((i+1:Nat):Int):=by rw [wr (by omega) (by omega)];rfl
  rw [hw,List.drop_eq_getElem_cons hil]
  obtain ⟨c,hc⟩:∃ c,c=x.1.2.1[i]:=⟨_,rfl⟩
  have hg:List.getD x.1.2.1 (i:Int).toNat ((0:Int),(([]:List Int),()))=c:=by
   rw [hc,Int.toNat_natCast,List.getD_eq_getElem?_getD,List.getElem?_eq_getElem hil];rfl
  rw [hg,<- hc]
  cases hd:decide ((i:Int) > 0) with
  | false =>
   have h0:¬ 0<i:=fun h=>by rw [decide_eq_false_iff_not] at hd;omega
   dsimp only
   rw [ih (i+1) n xss (by omega) (by omega) hl (fun r hr'=>by have:=hr r hr';omega)]
   rw [show eW (c :: x.1.2.1.drop (i+1)) i xss=eW (x.1.2.1.drop (i+1)) (i+1) xss from by rw [eW,if_neg h0]]
  | true =>
   have h0:0<i:=by rw [decide_eq_true_eq] at hd;omega
   have hpc:=hp i c (by rw [hc];exact List.getElem?_eq_getElem hil) h0
   have hlen:(xss.getD c.1.toNat []).length<=i:=by
    rw [List.getD_eq_getElem?_getD]
    cases e:xss[c.1.toNat]? with
    | none=>exact Nat.zero_le _
    | some r=>exact hr r (List.mem_of_getElem? e)
   dsimp only
   rw [FI ⟨hpc.1,by omega⟩ (by omega),cond_true]
   rw [ih (i+1) n _ (by omega) (by omega) (by rw [List.length_set];exact hl) (fun r hr'=>?_)]
   . rw [show eW (c :: x.1.2.1.drop (i+1)) i xss=eW (x.1.2.1.drop (i+1)) (i+1) (xss.set c.1.toNat (xss.getD c.1.toNat []++[(i:Int)])) from by rw [eW,if_pos h0]]
   . rcases List.mem_or_eq_of_mem_set hr' with h|h
     . have:=hr r h;omega
     . rw [h,List.length_append];exact Nat.add_le_add_right hlen 1
theorem KO {x:ac×Unit} {r:TR} (h:f58 x = .ret r):wN fuel x = .ret ((none:SN),r):=by
 unfold f58 at h
 split at h
 rotate_left
 . cases h
 rename_i hc
 cases h
 unfold wN
 rw [decide_eq_true hc.1,cond_true]
 refine iZ fun v=>?_
 have:=L58_eq (N:=fuel) (v:=v) (x:=x) (y1:=0) (y2:=[]) (y3:=[]) hc.1 hc.2 x.1.2.1.length 0 fuel (List.replicate x.1.2.1.length []) (by omega) (by have:=bK;omega) (by simp) (fun r hr=>by rw [List.eq_of_mem_replicate hr];exact Nat.zero_le _)
 rw [List.drop_zero] at this
 exact this
theorem fO:am Tryz.prog fw:=by
 refine Et (H:=HN) mixed (l:=BE) aO Tryz.func56 rfl (Lj fun s sp hs=>by cases hs) p_ (s:=(none:SN)) (fun w b=>r_ w b) (fun M w=>r9 M w) (fun x p h=>?_) fun x r hr=>⟨fuel,(none:SN),(Oj fuel x).trans (KO hr)⟩
 have h:f58 x = .pan p:=h
 unfold f58 at h
 split at h<;>cases h
end Go.V
end
