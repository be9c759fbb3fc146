/- Part. -/
import Derived.Test.YtmkbnifehdhbbabGreatDoorCS
set_option linter.all false
noncomputable section
namespace Go.V
open Go.Proofs
open Go.RowKit (Below)
def xH (nt d:Nat) (s:HM.σ) (st:St):Bool×Outs HM :=
 (st.length==nt && bL [d] st,.some [(s,st.set d (.box [.d .raw (.slice none 0 0)]))])
theorem Lx {ops:Array Oper} {i d nt:Nat} (x0:(ops.toList.map a_)[i]? = some (some d,.alloc 37,none)) (hdn:d<nt):dC Tryz.prog HM ops i (xH nt d):=by
 intro F M0 w0 n hI hpl Q K s st act w hc h1 hK;obtain ⟨o0,i0,d0,p0,q0⟩:=aB rfl x0;simp only at d0 p0 q0;unfold xH at h1 hK;simp only [Bool.and_eq_true,beq_iff_eq] at h1;obtain ⟨hlen,hnb⟩:=h1;have hnb:au (get st d)=false:=by
  have:=List.all_eq_true.1 hnb d (by simp)
  simpa using this
 obtain ⟨N0,hpn,⟨hb,M,hg⟩,hback⟩:=hc.lift;obtain ⟨M2,hgb⟩:=hg.put_box (o:=o0) (E:=37) (fun d' hd=>by rw [d0] at hd;cases hd;exact hnb) (cs:=[.d .raw (.slice none 0 0)]) (cells := #[.slice none 0 0])
  (fun k t xs hh h=>by match k,h with|0,h=>cases h|_+1,h=>cases h)
  (fun k t xs h=>by match k,h with|0,h=>cases h|_+1,h=>cases h)
  (fun k t xs hh v h1 h2=>by match k,h1,h2 with|0,h1,_=>cases h1|_+1,h1,_=>cases h1) rfl
  (fun k c u h1 h2=>by
   match k,h1,h2 with
   | 0,h1,h2=>cases h1;cases h2;exact ⟨rfl,rfl,rfl⟩
   | _+1,h1,_=>cases h1)
 have hr:(execOp act.eval o0).run Tryz.prog w = .ok (.value (.pointer (some ⟨w.heap.size,0,none⟩))) (w.alloc (.cells #[.slice none 0 0] 37)):=by
  simp only [execOp,p0];simp [go_sem]
 refine aV i0 (aC q0) (fun c h=>by rw [p0] at h;cases h) hr ?_;rw [d0] at hgb ⊢;exact hK _ (.head _) _ _ (hback _ _ _ ⟨hb.alloc hg.room _,M2,hgb⟩)
structure Pre64 (s:SM):Prop where
 rd:RdOK s.2.1 s.2.2
 par:ParOK s.2.1.1
 pos:0<s.2.1.1.2.1.length
 few:s.2.1.1.2.1.length<=8
def lF (s:SM) (rd:RD) (al:Int) (v3:Value):Bool := @decide (rd=bR s/\al=eS s/\v3 = .slice none 0 0/\Pre64 s) (Classical.propDecidable _)
theorem Uv {s:SM} {rd:RD} {al:Int} {v3:Value} (h:lF s rd al v3=true):rd=bR s/\al=eS s/\v3 = .slice none 0 0/\Pre64 s:=by
 unfold lF at h;exact @of_decide_eq_true _ (Classical.propDecidable _) h
theorem Uu {s:SM} (h:Pre64 s):lF s (bR s) (eS s) (.slice none 0 0)=true:=by
 unfold lF;exact @decide_eq_true _ (Classical.propDecidable _) ⟨rfl,rfl,rfl,h⟩
def u4 (s:SM) (st:St):St:=(bE [8,9,10,11] (((st.map aR).set 3 .und).set 5 .und)).set 2 (.d be (cI s []))
def rV {ρ:Type} (k:X->HM.σ->St->Out ρ) (s:HM.σ) (st:St):Out ρ :=
 match (get st 1).as (.ptr eN) with
 | some rd=>(match get st 3 with
  | .box [.d .raw v3]=>(match (get st 4).as (.ptr (.int .i64)) with
   | some al=>(match get st 5 with
    | .box [.d .raw v5]=>bif (st.length==12 && bL [2,8,9,10,11] st) && lF s rd al v3 then k .ret s (u4 s st) else .fail
    | _=>.fail)
   | none=>.fail)
  | _=>.fail)
 | none=>.fail
def ux:Array Oper:=bp 4 (av Tryz.f83)
def qV:Array Oper:=bp 5 (av Tryz.f83)
def qW:Array Oper:=bp 6 (av Tryz.f83)
def B6:Code:=.seq (.region 4 ux false) (.seq (.region 5 qV false) (.seq (.region 6 qW false) .ret))
theorem Gp:ux.toList.map a_=[(some 8,.makeFunc (.func 114) #[] #[.tmp 1,.tmp 3,.tmp 4,.tmp 5],none),(none,.store 97 (.tmp 5) (.tmp 8),none)]:=by kernel_rfl
theorem Gq:qV.toList.map a_=[(some 9,.load 97 (.tmp 5),none),(some 10,.call { callee:=.value (.tmp 9),args := #[.const (.slice none 0 0)],argTypes := #[25] },none)]:=by kernel_rfl
theorem Gr:qW.toList.map a_=[(some 11,.load 37 (.tmp 3),none),(some 2,.assign (.tmp 11),none)]:=by kernel_rfl
theorem AU:ux.size=2/\qV.size=2/\qW.size=2:=⟨by kernel_rfl,by kernel_rfl,by kernel_rfl⟩
theorem D3 {M:ai} {W:World} {st:St} {a:Act} {v x:Value} (h:aI M W st a v (.box [.d .raw x])):∃ b T,v = .pointer (some ⟨b,0,none⟩)/\W.heap[b]? = some (.cells #[x] T (0,0))/\∀ o,M b o:=by
 obtain ⟨b,T,cells,e1,e2,e3,e4,e5⟩:=h;have hlt:0<cells.size:=by rw [e3];simp
 have hc:=e5 0 _ cells[0] rfl (Array.getElem?_eq_getElem hlt);have h0:[cells[0]]=[x]:=hc.1;have:cells = #[x]:=by
  apply Array.ext
  . rw [e3];rfl
  . intro i h1 h2;have:i=0:=by simp at h2;omega
    subst this
    simpa using h0
 subst this;exact ⟨b,T,e1,e2,e4⟩
set_option maxRecDepth 4000 in
theorem KJ:h_ Tryz.prog HM B6 (fun {ρ} k s st=>rV k s st):=by
 intro ρ fin hf hr F M0 w0 n hI hpl k Q hQ s st act w hc h;have h:rV k s st=fin:=h;unfold rV at h;split at h;rotate_left
 . exact absurd h.symm hf
 rename_i rd e1;split at h;rotate_left
 . exact absurd h.symm hf
 rename_i v3 e3;split at h;rotate_left
 . exact absurd h.symm hf
 rename_i al e4;split at h;rotate_left
 . exact absurd h.symm hf
 rename_i v5 e5;cases hcd:((st.length==12 && bL [2,8,9,10,11] st) && lF s rd al v3) with
 | false=>rw [hcd] at h;exact absurd h.symm hf
 | true =>
 rw [hcd] at h;simp only [Bool.and_eq_true,beq_iff_eq] at hcd;obtain ⟨⟨hlen,hnb⟩,hpre⟩:=hcd;obtain ⟨hrd,hal,hv3,hp⟩:=Uv hpre;subst hrd;subst hal;subst hv3;have h:k .ret s (u4 s st)=fin:=h;obtain ⟨hfr,M,hG⟩:=id hc;have hg:=hG.2.1;have hh:=hG.2.2;obtain ⟨es,ck,hm,hmemo⟩:=hG.1;have r1:aw M w (.ptr eN) (tm act 1) (bR s):=cO (hg.slot 1) e1;have r4:aw M w (.ptr (.int .i64)) (tm act 4) (eS s):=cO (hg.slot 4) e4;have s3:=hg.slot 3;rw [e3] at s3;obtain ⟨b3,T3,t3,hb3,m3⟩:=D3 s3;have s5:=hg.slot 5;rw [e5] at s5;obtain ⟨b5,T5,t5,hb5,m5⟩:=D3 s5;have o3:ap st act w 3 none b3:=⟨by rw [e3];rfl,by rw [t3];rfl⟩
 have o5:ap st act w 5 none b5:=⟨by rw [e5];rfl,by rw [t5];rfl⟩
 have h35:b3≠b5:=fun e=>by have:=(hg.one 3 none 5 none b3 o3 (e ▸ o5)).1;omega
 have hm3:s.1≠b3:=fun e=>by rw [e,hb3] at hm;cases hm
 have hm5:s.1≠b5:=fun e=>by rw [e,hb5] at hm;cases hm
 have l3:b3<w.heap.size:=(Array.getElem?_eq_some_iff.1 hb3).1;have l5:b5<w.heap.size:=(Array.getElem?_eq_some_iff.1 hb5).1;have lm:s.1<w.heap.size:=(Array.getElem?_eq_some_iff.1 hm).1;have hsz:act.tmps.size=12:=hg.size.trans hlen;obtain ⟨ss,hss⟩:∃ ss:SS,ss=⟨s,b3,tm act 1,tm act 4,tm act 5,[]⟩:=⟨_,rfl⟩
 have hpf:ss.pf = .func (.func 114) #[] #[tm act 1,tm act 3,tm act 4,tm act 5]:=by rw [hss,t3];rfl
 obtain ⟨a0,ha0,d0,p0,q0⟩:=aB Gp (i:=0) rfl;obtain ⟨a1,ha1,d1,p1,q1⟩:=aB Gp (i:=1) rfl;obtain ⟨c0,hc0,dd0,pp0,qq0⟩:=aB Gq (i:=0) rfl;obtain ⟨c1,hc1,dd1,pp1,qq1⟩:=aB Gq (i:=1) rfl;obtain ⟨g0,hg0,dg0,pg0,qg0⟩:=aB Gr (i:=0) rfl;obtain ⟨g1,hg1,dg1,pg1,qg1⟩:=aB Gr (i:=1) rfl;simp only at d0 p0 q0 d1 p1 q1 dd0 pp0 qq0 dd1 pp1 qq1 dg0 pg0 qg0 dg1 pg1 qg1;unfold B6;refine wpIn_seq (wpIn_region ?_);rw [AU.1];show wpOpsIn (aA none) n Tryz.prog ux _ [0,1] act w;rw [wpOpsIn_cons];have hr0:(execOp act.eval a0).run Tryz.prog w = .ok (.value ss.pf) w:=by
  have x1:act.eval (.tmp 1)=tm act 1:=rfl;have x3:act.eval (.tmp 3)=tm act 3:=rfl;have x4:act.eval (.tmp 4)=tm act 4:=rfl;have x5:act.eval (.tmp 5)=tm act 5:=rfl;rw [hpf];simp [execOp,p0,x1,x3,x4,x5,go_sem]
 refine aV ha0 (aC q0) (fun c h=>by rw [p0] at h;cases h) hr0 ?_;rw [d0,wpOpsIn_cons];have hpfc:ss.pf.oneCell'=true/\ss.pf.cells = #[ss.pf]:=⟨rfl,rfl⟩
 refine iG ha1 (aC q1) (fun c h=>by rw [p1] at h;cases h) (yw (T:=97) (t:=.raw) (by kernel_rfl) rfl p1 (b:=b5) (v:=v5) (u:=ss.pf) (E:=T5) (by rw [aj (by omega)];exact t5) (ay (by omega)) hpfc.1 hpfc.2 hb5) ?_;rw [d1,gW];obtain ⟨w1,hw1⟩:∃ w1,w1=w.setRow b5 #[ss.pf]:=⟨_,rfl⟩
 rw [<- hw1];have sz1:w1.heap.size=w.heap.size:=by rw [hw1];exact setRow_size
 have hb51:w1.heap[b5]? = some (.cells #[ss.pf] T5 (0,0)):=by rw [hw1];exact lU hb5
 have hoth1:∀ b,b≠b5->w1.heap[b]? = w.heap[b]? := fun b hb=>by rw [hw1];exact setRow_other hb
 show (Code.seq (.region 5 qV false) _).wpIn (aA none) n Tryz.prog Q _ w1;refine wpIn_seq (wpIn_region ?_);rw [AU.2.1];show wpOpsIn (aA none) n Tryz.prog qV _ [0,1] _ w1;rw [wpOpsIn_cons];refine aV hc0 (aC qq0) (fun c h=>by rw [pp0] at h;cases h) (kM (T:=97) (t:=.raw) (by kernel_rfl) rfl rfl pp0 (b:=b5) (v:=ss.pf) (E:=T5) (by rw [aj (by omega)];exact t5) hb51) ?_;rw [dd0,wpOpsIn_cons];have hr5:(execOp ((act.put (some 8) ss.pf).put (some 9) ss.pf).eval c1).run Tryz.prog w1 = .ok (.enter 114 #[.slice none 0 0,ss.pr,ss.po,ss.pa,ss.pp]) w1:=by
  have x0:((act.put (some 8) ss.pf).put (some 9) ss.pf).eval (.tmp 9) = .func (.func 114) #[] #[ss.pr,ss.po,ss.pa,ss.pp]:=ay (by rw [aG];omega);have x1:((act.put (some 8) ss.pf).put (some 9) ss.pf).eval (.const (.slice none 0 0)) = .slice none 0 0:=rfl;have x3:=fun args=>dK (P:=Tryz.prog) (g:=114) (by kernel_rfl) args w1
  simp [execOp,pp1,resolve,x0,x1,Deferred.ofValue,invoke,x3]
 refine gz hc1 (aC qq1) (fun c h=>by rw [pp1] at h;cases h) hr5 ?_;obtain ⟨M1,hM1⟩:∃ M1:ai,M1=fun b o=>M b o/\b≠b5:=⟨_,rfl⟩
 have hst1:aL M w M1 w1:=fun b o v hcb hmb=>by
  have hne:b≠b5:=fun e=>hmb (e ▸ m5 o)
  exact ⟨(World.cell?_of_block (a:=⟨b,o,none⟩) (hoth1 b hne)).trans hcb,fun h=>by rw [hM1] at h;exact hmb h.1⟩
 have hI1:HS.I ss M1 w1:=by
  rw [hss];refine ⟨⟨es,ck,(hoth1 _ hm5).trans hm,hmemo⟩,hm3,⟨.slice none 0 0,T3,(hoth1 _ h35).trans hb3,[],rfl,⟨rfl,.inl ⟨rfl,rfl⟩⟩,fun i u l hu=>(by cases hu),fun g hg=>(by cases hg)⟩,r1.mono hst1,r4.mono hst1,?_⟩;refine ⟨[.pointer (some ⟨b5,0,none⟩)],by show tm act 5=_;rw [t5];rfl,b5,0,[ss.pf],rfl,rfl,fun j hj=>?_,?_⟩
  . have:j=0:=by simpa using hj
    subst this;exact ⟨cj hb51 rfl,fun h=>by rw [hM1] at h;exact h.2 rfl⟩
  . rw [hss];exact ⟨rfl,rfl,rfl⟩
 have hhb:∀ b,HS.hb ss w1 b->b=s.1\/b=b3:=fun b hb=>by
  rw [hss] at hb;rcases hb with hb|hb|⟨u,hu,hub⟩
  . exact .inl hb
  . exact .inr hb
  . have:w1.cell? ⟨b3,0,none⟩=some (.slice none 0 0):=cj ((hoth1 _ h35).trans hb3) rfl;have hu:w1.cell? ⟨b3,0,none⟩=some u:=hu;rw [this] at hu;cases hu;cases hub
 have hFn:∀ b,F b->b≠s.1/\b≠b3/\b≠b5:=fun b hF=>⟨fun e=>(hh b e).1 hF,fun e=>hg.new 3 none b (e ▸ o3) hF,fun e=>hg.new 5 none b (e ▸ o5) hF⟩
 have hfr1:Fr F w w1:=⟨by rw [hw1];rfl,by rw [hw1];rfl,by rw [hw1];rfl,Nat.le_of_eq sz1.symm,fun b hF=>hoth1 b (hFn b hF).2.2⟩
 have hsm:ss.sm=s:=by rw [hss]
 have hbo:ss.bo=b3:=by rw [hss]
 have houts:ss.outs=[]:=by rw [hss]
 have hpp:PutPre 2000 ss []:=by
  refine ⟨by rw [hsm];exact hp.rd,by rw [hsm];exact hp.par,by rw [hsm];exact hp.pos,by simp,by rw [hsm];simp;have:=hp.few;omega,?_,fun x hx=>by cases hx⟩;rw [houts,hsm];have:10 ^ (s.2.1.1.2.1.length - ([]:List Int).length)<=10 ^ 8:=Nat.pow_le_pow_right (by omega) (by have:=hp.few;simp;omega);simp only [List.length_nil,Nat.zero_add] at this ⊢;omega
 refine (UC 2000 ss [] M1 w1 (.slice none 0 0) hpp (fun w' hw'=>hI w' (hfr.trans (hfr1.trans ⟨hw'.os,hw'.tape,hw'.output,hw'.size,fun b hF=>hw'.block b ⟨by rw [sz1];exact hg.room b hF,fun hB=>?_⟩⟩))) hI1 ⟨_,rfl,af.list_nil _⟩
  (fun b o hm'=>by rw [hM1] at hm';rw [sz1];exact hg.lt b o hm'.1) fun b hB o=>?_).mono ?_
 . rcases hhb b hB with e|e
   . exact (hFn b hF).1 e
   . exact (hFn b hF).2.1 e
 . rw [hM1];rcases hhb b hB with e|e
   . exact ⟨(hh b e).2.1 o,fun e'=>hm5 (e ▸ e')⟩
   . exact ⟨e ▸ m3 o,fun e'=>h35 (e ▸ e')⟩
 rintro e w2 ⟨⟨u,rfl⟩,f1,f2,M2,f3,f4,f5,f6⟩;refine ⟨u,rfl,?_⟩;rw [dd1];show (Code.seq (.region 6 qW false) _).wpIn (aA none) n Tryz.prog Q _ w2;obtain ⟨⟨es2,ck2,hm2,hmemo2⟩,_,⟨v2,T2,hb32,us,hul,hown,hreps,hdis⟩,_⟩:=f3;have hb32:w2.heap[b3]? = some (.cells #[v2] T2 (0,0)):=by rw [<- hbo];exact hb32
 have hm2:w2.heap[s.1]? = some (.map es2 ck2):=by rw [<- hsm];exact hm2
 have hmemo2:my (br s) es2:=by rw [<- hsm];exact hmemo2
 obtain ⟨outs,houts2⟩:∃ l,l=cI s []:=⟨_,rfl⟩
 have hul:us.length=outs.length:=by rw [hul,houts2];show (ss.outs++cI ss.sm []).length=_;rw [houts,hsm];rfl
 have hreps:∀ (i:Nat) u l,us[i]? = some u->outs[i]? = some l->aw M2 w2 (.list (.int .i64)) u l:=fun i u l hu hl=>hreps i u l hu (by
  show (ss.outs++cI ss.sm [])[i]? = some l;rw [houts,hsm,List.nil_append,<- houts2];exact hl)
 have hdis:∀ g,ag v2=some g->g≠s.1/\g≠b3:=fun g hg'=>by have:=hdis g hg';rw [show (ss.add (cI ss.sm [])).sm=s from hsm,show (ss.add (cI ss.sm [])).bo=b3 from hbo] at this;exact this
 refine wpIn_seq (wpIn_region ?_);rw [AU.2.2];show wpOpsIn (aA none) n Tryz.prog qW _ [0,1] _ w2;rw [wpOpsIn_cons];refine aV hg0 (aC qg0) (fun c h=>by rw [pg0] at h;cases h) (kM (T:=37) (t:=.list (.list (.int .i64))) (by kernel_rfl) rfl rfl pg0 (b:=b3) (v:=v2) (E:=T2) (by rw [aj (by omega),aj (by omega),aj (by omega)];exact t3) hb32) ?_;rw [dg0,wpOpsIn_cons];refine aV hg1 (aC qg1) (fun c h=>by rw [pg1] at h;cases h) (tj pg1) ?_;rw [dg1,ay (by rw [aG,aG,aG];omega)];show Code.ret.wpIn (aA none) n Tryz.prog Q _ w2;refine wpIn_ret ?_;have sz2:w.heap.size<=w2.heap.size:=by have:=f1.size;omega
 have hRnew:∀ g,ag v2=some g->w.heap.size<=g/\g<w2.heap.size:=fun g hg'=>by
  have hcell:w2.cell? ⟨ss.bo,0,none⟩=some v2:=by rw [hbo];exact cj hb32 rfl
  obtain ⟨cur,eg⟩:=gC hown hg';refine ⟨?_,(Array.getElem?_eq_some_iff.1 eg).1⟩;rcases f2 g (.inr (.inr ⟨v2,hcell,hg'⟩)) with h'|h'
  . rcases hhb g h' with e|e
    . exact absurd e (hdis g hg').1
    . exact absurd e (hdis g hg').2
  . omega
 have hout2:∀ b,b<w.heap.size->b≠s.1->b≠b3->b≠b5->w2.heap[b]? = w.heap[b]? := fun b hb h1 h2 h3=>by
  rw [f1.block b ⟨by omega,fun hB=>by rcases hhb b hB with e|e;exact h1 e;exact h2 e⟩];exact hoth1 b h3
 obtain ⟨M3,hM3⟩:∃ M3:ai,M3=fun b o=>M2 b o/\ag v2≠some b:=⟨_,rfl⟩
 have hM23:∀ b o,M3 b o->M b o\/(w.heap.size<=b/\b<w2.heap.size):=fun b o h=>by
  rw [hM3] at h;rcases f5 b o h.1 with h'|h'
  . rw [hM1] at h';exact .inl h'.1
  . exact .inr (by omega)
 have hMup:∀ b o,b<w.heap.size->b≠s.1->b≠b3->b≠b5->M b o->M3 b o:=fun b o hb h1 h2 h3 h=>by
  rw [hM3];refine ⟨(f4 b o (by rw [hM1];exact ⟨h,h3⟩)).resolve_left fun hB=>by rcases hhb b hB with e|e;exact h1 e;exact h2 e,fun e=>?_⟩;have:=(hRnew b e).1;omega
 have hst3:aL M w M3 w2:=fun b o v hcb hmb=>by
  have hlt:=c_ hcb;have n3:b≠b3:=fun e=>hmb (e ▸ m3 o)
  have n5:b≠b5:=fun e=>hmb (e ▸ m5 o)
  have nm:b≠s.1:=fun e=>hmb ((hh b e).2.1 o)
  refine ⟨(World.cell?_of_block (a:=⟨b,o,none⟩) (hout2 b hlt nm n3 n5)).trans hcb,fun h=>?_⟩;rcases hM23 b o h with h'|⟨h',_⟩
  . exact hmb h'
  . omega
 have hgd:Good M0 F M (st.map aR) act w:=hg.mask (by simp) (fun i=>.inr (.inl (dp st i))) fun j v hj=>(hpl j v hj).elim
 have o3':ap (st.map aR) act w 3 none b3:=⟨by rw [dp,e3];rfl,by rw [t3];rfl⟩
 have o5':ap (st.map aR) act w 5 none b5:=⟨by rw [dp,e5];rfl,by rw [t5];rfl⟩
 obtain ⟨st1,hst⟩:∃ st1,st1=((st.map aR).set 3 .und).set 5 .und:=⟨_,rfl⟩
 have hgs:∀ j,get st1 j=if j=3\/j=5 then .und else get (st.map aR) j:=fun j=>by
  rw [hst]
  by_cases h5:j=5
  . subst h5;rw [bu _ _ _ _ (by simp;omega),if_pos rfl,if_pos (.inr rfl)]
  . rw [eU h5]
    by_cases h3:j=3
    . subst h3;rw [bu _ _ _ _ (by simp;omega),if_pos rfl,if_pos (.inl rfl)]
    . rw [eU h3,if_neg (by omega)]
 have howns:∀ j k b,ap st1 act w j k b->ap (st.map aR) act w j k b/\j≠3/\j≠5:=fun j k b ho=>by
  by_cases hj:j=3\/j=5
  . have e:get st1 j = .und:=by rw [hgs,if_pos hj]
    cases k with
    | none=>have:=ho.1;rw [e] at this;cases this
    | some k=>obtain ⟨cs,_,_,_,e',_⟩:=ho;rw [e] at e';cases e'
  . have e:get st1 j=get (st.map aR) j:=by rw [hgs,if_neg hj]
    refine ⟨?_,by omega,by omega⟩;cases k with
    | none=>exact ⟨e ▸ ho.1,ho.2⟩
    | some k=>obtain ⟨cs,c0,c,v,e',rest⟩:=ho;exact ⟨cs,c0,c,v,e ▸ e',rest⟩
 have hgm:Good M0 F M st1 act w:=hg.mask (by rw [hst];simp) (fun i=>by
  rw [hgs,dp];split
  . exact .inl rfl
  . exact .inr (.inl rfl)) fun j v hj=>(hpl j v hj).elim
 have hmd:∀ b,HM.hb s w b->∀ i k,¬ ap (st.map aR) act w i k b:=fun b hb i k ho=>by
  obtain ⟨ob,e1,e2⟩:∃ ob,w.heap[b]? = some ob/\ob = .map es ck:=⟨_,(show b=s.1 from hb) ▸ hm,rfl⟩
  cases k with
  | none =>
   have hsl:=hgd.slot i;obtain ⟨q1,q2⟩:=ho;cases e:get (st.map aR) i<;>rw [e] at q1 hsl<;>simp [bf] at q1
   . rcases hsl.2 with ⟨x1,_⟩|⟨g,cap,cells,T,x1,x2,_⟩
     . rw [x1] at q2;simp [ag] at q2
     . rw [x1] at q2;simp [ag] at q2;subst q2;rw [e1,e2] at x2;cases x2
   . obtain ⟨b',T,cells,x1,x2,_⟩:=hsl;rw [x1] at q2;simp [ag] at q2;subst q2;rw [e1,e2] at x2;cases x2
   . rcases hsl with ⟨x1,_⟩|⟨g,cap,cells,T,x1,x2,_⟩
     . rw [x1] at q2;simp [ag] at q2
     . rw [x1] at q2;simp [ag] at q2;subst q2;rw [e1,e2] at x2;cases x2
   . obtain ⟨r,x1,x2⟩:=hsl;rw [x1] at q2;simp [ag] at q2;subst q2;rw [e1,e2] at x2;cases x2
  | some k =>
   obtain ⟨cs,c0,c,v,x1,x2,x0,x3,x4,x5⟩:=ho;have hsl:=hgd.slot i;rw [x1] at hsl;obtain ⟨b',T,cells,f1,f2,f3,f4,f5⟩:=hsl;rw [f1] at x3;simp [ag] at x3;subst x3;rw [cell_of_row w _ k cells T (0,0) f2] at x4;have:=f5 k _ v x2 x4;cases c0<;>simp [b_] at x0
   . rcases this.2 with ⟨y1,_⟩|⟨g,cap,cells,T,y1,y2,_⟩
     . rw [y1] at x5;simp [ag] at x5
     . rw [y1] at x5;simp [ag] at x5;subst x5;rw [e1,e2] at y2;cases y2
   . rcases this with ⟨y1,_⟩|⟨g,cap,cells,T,y1,y2,_⟩
     . rw [y1] at x5;simp [ag] at x5
     . rw [y1] at x5;simp [ag] at x5;subst x5;rw [e1,e2] at y2;cases y2
 have hoth:∀ j k b,ap st1 act w j k b->b<w.heap.size/\b≠s.1/\b≠b3/\b≠b5:=fun j k b ho=>by
  obtain ⟨q1,q3,q5⟩:=howns j k b ho;exact ⟨cH hgd.slot q1,fun e=>hmd b e j k q1,fun e=>q3 (hgd.one j k 3 none b q1 (e ▸ o3')).1,fun e=>q5 (hgd.one j k 5 none b q1 (e ▸ o5')).1⟩
 have hg2:Good M0 F M3 st1 act w2:=by
  refine hgm.world hst3 sz2 (fun b o hm'=>?_) (fun b o hm'=>?_) (fun b o hF hm'=>?_) (fun D c e=>?_) fun i k b ho=>?_
  . have hF:=hg.base b o hm';obtain ⟨n1,n2,n3⟩:=hFn b hF;exact hMup b o (hg.room b hF) n1 n2 n3 (hg.up b o hm')
  . rcases hM23 b o hm' with h'|⟨_,h'⟩
    . have:=hg.lt b o h';omega
    . exact h'
  . rcases hM23 b o hm' with h'|⟨h',_⟩
    . exact hg.down b o hF h'
    . have:=hg.room b hF;omega
  . refine (hout2 D (Array.getElem?_eq_some_iff.1 e).1 (fun e'=>?_) (fun e'=>?_) fun e'=>?_).trans e
    . rw [e',hm] at e;cases e
    . rw [e',hb3] at e;cases e
    . rw [e',hb5] at e;cases e
  . obtain ⟨n0,n1,n2,n3⟩:=hoth i k b ho;exact ⟨hout2 b n0 n1 n2 n3,fun o hm'=>hMup b o n0 n1 n2 n3 hm'⟩
 have hbm2:∀ o,M3 s.1 o:=fun o=>by
  rw [hM3];refine ⟨f6 s.1 (.inl (by rw [<- hsm];rfl)) o,fun e=>(hdis _ e).1 rfl⟩
 have hG2:bv HM F M0 s M3 st1 act w2:=by
  refine ⟨⟨es2,ck2,hm2,hmemo2⟩,hg2,fun b hb=>⟨(hh b hb).1,fun o=>?_,fun i k ho=>?_⟩⟩
  . rw [show b=s.1 from hb];exact hbm2 o
  . have ho':=cM (fun i b ho=>by obtain ⟨n0,n1,n2,n3⟩:=hoth i none b ho;exact hout2 b n0 n1 n2 n3) ho;exact (hoth i k b ho').2.1 hb
 have hnb1:bL ([(8,ss.pf),(9,ss.pf),(10,u),(11,v2)].map (·.1)) st1=true:=by
  refine List.all_eq_true.2 fun i hi=>?_
  have hi':i=8\/i=9\/i=10\/i=11:=by simpa using hi
  have hb:=List.all_eq_true.1 hnb i (by simp;omega);rw [hgs,if_neg (by omega),dp,qr];exact hb
 have hall:=gc hG2 [(8,ss.pf),(9,ss.pf),(10,u),(11,v2)] st1 act hG2 hnb1;have hrep:aw M3 w2 be v2 outs:=by
  rcases hown.2 with ⟨rfl,h0⟩|⟨g,cap,cur,rfl,_,hg',hle,_,hcs,htk⟩
  . have:outs=[]:=List.eq_nil_of_length_eq_zero (by omega);rw [this];exact ⟨_,rfl,af.list_nil _⟩
  . rw [hul];refine ⟨_,rfl,some ⟨g,0,none⟩,cap,rfl,hul ▸ hle,fun i hi=>?_⟩;have hiu:i<us.length:=by have h:i<outs.length:=hi;omega
    refine ⟨g,0,[us[i]],rfl,rfl,fun j hj=>?_,?_⟩
    . have:j=0:=by simpa using hj
      subst this;simp only [Ty.size,Nat.mul_one,Nat.zero_add,Nat.add_zero];refine ⟨?_,fun h=>by rw [hM3] at h;exact h.2 rfl⟩;rw [cell_of_row w2 g i cur 25 (0,0) hg'];have:(cur.toList.take (us.length * 1))[i]? = some us[i]:=by rw [htk];exact List.getElem?_eq_getElem hiu
      rw [List.getElem?_take,if_pos (by omega)] at this
      simpa using this
    . obtain ⟨cs,q1,q2⟩:=hreps i us[i] outs[i] (List.getElem?_eq_getElem hiu) (List.getElem?_eq_getElem hi);exact af.mono (V5 fun b o _ h=>by rw [hM3] at h;exact h.1) _ _ _ (zH q1 q2)
 have hnb2:au (get (bE [8,9,10,11] st1) 2)=false:=by
  have e:get (bE [8,9,10,11] st1) 2=get st1 2:=by
   unfold bE;simp only [List.foldl_cons,List.foldl_nil];rw [eU (by omega),eU (by omega),eU (by omega),eU (by omega)]
  rw [e,hgs,if_neg (by omega),dp,qr];have:=List.all_eq_true.1 hnb 2 (by simp)
  simpa using this
 have hfin:=hall.focus.fin (dst:=some 2) (s:=.d (.list (.list (.int .i64))) outs) (v:=v2) (fun d hd=>by cases hd;exact hnb2) rfl hrep;have hGf:=hall.unfocus (Fr.refl _ _) hfin;have hfrF:Fr F w w2:=⟨by rw [f1.os,hw1];rfl,by rw [f1.tape,hw1];rfl,by rw [f1.output,hw1];rfl,sz2,fun b hF=>by obtain ⟨n1,n2,n3⟩:=hFn b hF;exact hout2 b (hg.room b hF) n1 n2 n3⟩
 refine hQ .ret s (u4 s st) _ w2 ⟨hfr.trans hfrF,M3,?_⟩ h;have est:u4 s st=(bE ([(8,ss.pf),(9,ss.pf),(10,u),(11,v2)].map (·.1)) st1).set 2 (.d be outs):=by rw [houts2,hst];rfl
 rw [est];exact hGf
def I3:List Spec:=[]
def mV:List (Nat×List Nat):=[(4000003,[1,102,4,3])]
def uW (s:SM):List Spec:=[ID s]
def Ay:Array Oper:=bp 1 (av Tryz.f83)
def vS:Nat->Option (Nat×(SM->St->Bool×Outs HM)):=fun i=>match i with|0=>some (0,xH 12 3)|_=>none
theorem Ku:∀ i y,vS i=some y->bw Tryz.prog HM Ay i y.1 y.2:=by
 intro i y h;unfold vS at h;split at h
 . cases h;exact (Lx (i:=0) (by kernel_rfl) (by omega)).one
 . cases h
def Az:Array Oper:=bp 2 (av Tryz.f83)
def CE:Nat->Option (Nat×(SM->St->Bool×Outs HM)):=fun _=>none
theorem Kv:∀ i y,CE i=some y->bw Tryz.prog HM Az i y.1 y.2:=fun _ _ h=>by cases h
def Dv:List (List Nat×HdH HM):=[([1,0],⟨fun {ρ} k s st=>cf Tryz.prog HM (fun s=>ah (uW s)) mV vS 1 Ay k s st⟩),
 ([1,1,0],⟨fun {ρ} k s st=>cf Tryz.prog HM (fun s=>ah (uW s)) mV CE 2 Az k s st⟩),
 ([1,1,1,1],⟨fun {ρ} k s st=>rV k s st⟩)]
theorem Lo (h:∀ s,∀ sp∈uW s,cT Tryz.prog HM s sp):bG Tryz.prog HM (av Tryz.f83) (Dv):=(bJ (c' := .region 1 Ay false) (by kernel_rfl) (cr (fun s g sp hs=>h s sp (List.mem_filter.1 hs).1) mV Ku) (bJ (c' := .region 2 Az false) (by kernel_rfl) (cr (fun s g sp hs=>h s sp (List.mem_filter.1 hs).1) mV Kv) (bJ (c':=B6) (by kernel_rfl) KJ dU)))
def wP (s:SM) (N:Nat) (x:nh):Out (SM×(List (List Int))) :=
 match jP s (x.1,()) with
 | .ret r_1 =>
  bif (lF s x.1 r_1 (Value.slice none 0 0)) then
   .ret (s,(cI s []))
  else .fail
 | .pan p_2 =>
  .fail
 | .fail=>.fail
theorem Oo (s:SM) (N:Nat) (x:nh):cD Tryz.prog HM (ah I3) mV N (Dv) Tryz.f83 false false (.prod (.prod (.prod (.prod (.int .i64) (.prod (.list (.prod (.int .i64) (.prod (.list (.int .i64)) .unit))) .unit)) (.prod (.list (.list (.int .i64))) .unit)) (.prod (.int .i64) (.prod .raw .unit))) .unit) be s x=wP s N x:=by
 kernel_rfl
open Classical in
noncomputable def f64 (s:SM) (x:RD×Unit):Out (List (List Int)):=if x.1=bR s/\Pre64 s then .ret (cI s []) else .fail
def V2 (s:SM):Spec:=⟨83,.call,.prod eN .unit,.list (.list (.int .i64)),false,false,f64 s⟩
theorem Qs {s:SM} {x:RD×Unit} {r:List (List Int)} (h:f64 s x = .ret r):x.1=bR s/\Pre64 s/\r=cI s []:=by
 unfold f64 at h;split at h
 . rename_i hc;cases h;exact ⟨hc.1,hc.2,rfl⟩
 . cases h
theorem KQ {s:SM} {x:RD×Unit} {r:List (List Int)} (h:f64 s x = .ret r):wP s fuel x = .ret (s,r):=by
 obtain ⟨hx,hp,rfl⟩:=Qs h;obtain ⟨rd,u⟩:=x;dsimp only at hx;subst hx;unfold wP;have h1:jP s (bR s,()) = .ret (eS s):=by
  unfold jP;rw [if_pos ⟨rfl,hp.rd,hp.pos⟩]
 simp only [h1,Uu hp,cond_true]
theorem Ea (s:SM):fe Tryz.prog HM s (V2 s):=by
 refine qC (H:=HM) mixed (l:=I3) aO Tryz.func83 rfl (Lo fun s sp hs=>?_) mV oL (fun M w w'=>qq M s w w') rfl rfl fun x r hr=>⟨fuel,?_⟩
 . simp only [uW,List.mem_cons,List.not_mem_nil,or_false] at hs;subst hs;exact .inr ⟨rfl,D_ s⟩
 . exact (Oo s fuel x).trans (KQ hr)
end Go.V
end
