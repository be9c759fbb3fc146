/- Part. -/
import Derived.Test.YtmkbnifehdhbbabGreatDoorCM
set_option linter.all false
noncomputable section
namespace Go.V
open Go.Proofs
open Go.RowKit (Below)
theorem bv.grow {H:Hole} {F:Nat->Prop} {M0:Base} {s s':H.σ} {M M':ai} {st:St} {a:Act} {w w':World} (h:bv H F M0 s M st a w) (hf:Fr (fun k=>k<w.heap.size/\¬ H.hb s w k) w w') (hI:H.I s' M' w')
 (hup:∀ b o,M b o->H.hb s w b\/M' b o) (hnew:∀ b o,M' b o->M b o\/(w.heap.size<=b/\b<w'.heap.size)) (hbs:∀ b,H.hb s' w' b->H.hb s w b\/w.heap.size<=b) (hmu:∀ b,H.hb s' w' b->∀ o,M' b o) :
 Fr F w w'/\bv H F M0 s' M' st a w':=by
 obtain ⟨hH,hg,hh⟩:=h;have hout:∀ k,k<w.heap.size->¬ H.hb s w k->w'.heap[k]? = w.heap[k]? := fun k h1 h2=>hf.block k ⟨h1,h2⟩
 have howns:∀ i k b,ap st a w i k b->w'.heap[b]? = w.heap[b]? := fun i k b ho=>hout b (cH hg.slot ho) fun hB=>(hh b hB).2.2 i k ho
 have hold:∀ i k b,ap st a w' i k b->ap st a w i k b:=fun i k b ho=>cM (fun i b ho=>howns i none b ho) ho
 refine ⟨⟨hf.os,hf.tape,hf.output,hf.size,fun b hF=>hout b (hg.room b hF) fun hB=>(hh b hB).1 hF⟩,hI,?_,fun b hb=>⟨fun hF=>?_,hmu b hb,fun i k ho=>?_⟩⟩
 . refine hg.world (M':=M') (fun b o v hc hm=>?_) hf.size (fun b o hm=>?_) (fun b o hm=>?_) (fun b o hF hm=>?_) (fun D c e=>?_) fun i k b ho=>⟨howns i k b ho,fun o hm=>?_⟩
   . have hnb:¬ H.hb s w b:=fun hB=>hm ((hh b hB).2.1 o)
     refine ⟨(World.cell?_of_block (a:=⟨b,o,none⟩) (hout b (c_ hc) hnb)).trans hc,fun hm'=>?_⟩;rcases hnew b o hm' with h1|⟨h1,_⟩
     . exact hm h1
     . have:=c_ hc;omega
   . exact (hup b o (hg.up b o hm)).resolve_left fun hB=>(hh b hB).1 (hg.base b o hm)
   . rcases hnew b o hm with h1|⟨_,h1⟩
     . exact Nat.lt_of_lt_of_le (hg.lt b o h1) hf.size
     . exact h1
   . rcases hnew b o hm with h1|⟨h1,_⟩
     . exact hg.down b o hF h1
     . have:=hg.room b hF;omega
   . exact (hout D (Array.getElem?_eq_some_iff.1 e).1 fun hB=>H.nd s M w D c hH hB e).trans e
   . exact (hup b o hm).resolve_left fun hB=>(hh b hB).2.2 i k ho
 . rcases hbs b hb with h1|h1
   . exact (hh b h1).1 hF
   . have:=hg.room b hF;omega
 . have ho:=hold i k b ho;rcases hbs b hb with h1|h1
   . exact (hh b h1).2.2 i k ho
   . have:=cH hg.slot ho;omega
def bC (t:ac) (fr:Nat):Int:=(t.2.1.getD fr (0,([],()))).1
def dD (sm:SM) (now:List Int) (g:Int):Bool :=
 if now=[] then br sm 0 g==eS sm else dc (br sm) now.length g (now.getD (bC sm.2.1.1 now.length).toNat 0)==cW (br sm) now.length (now.getD (bC sm.2.1.1 now.length).toNat 0)
def dP (sm:SM):Nat->List Int->List (List Int)
 | 0,now=>[now]
 | k+1,now=>(List.range 10).flatMap fun (g:Nat)=>if dD sm now g then dP sm k (now++[(g:Int)]) else []
structure ParOK (t:ac):Prop where
 par:∀ i,0<i->i<t.2.1.length->0<=bC t i/\bC t i<i
structure SS where
 sm:SM
 bo:Nat
 pr:Value
 pa:Value
 pp:Value
 outs:List (List Int)
def SS.add (s:SS) (l:List (List Int)):SS:={ s with outs:=s.outs++l }
def SS.po (s:SS):Value:=.pointer (some ⟨s.bo,0,none⟩)
def SS.pf (s:SS):Value:=.func (.func 114) #[] #[s.pr,s.po,s.pa,s.pp]
def K1 (M:ai) (w:World) (sm bo:Nat) (v:Value) (outs:List (List Int)):Prop :=
 ∃ us:List Value,us.length=outs.length/\w.ownsRow 0 25 1 v us.length us/\(∀ (i:Nat) u l,us[i]? = some u->outs[i]? = some l->aw M w (.list (.int .i64)) u l)/\∀ g,ag v=some g->g≠sm/\g≠bo
theorem gC {w:World} {base E sz n:Nat} {v:Value} {us:List Value} (h:w.ownsRow base E sz v n us) {g:Nat} (hg:ag v=some g):∃ cur,w.heap[g]? = some (.cells cur E (0,0)):=by
 rcases h.2 with ⟨rfl,_⟩|⟨g',cap,cur,rfl,_,h1,_⟩
 . cases hg
 . cases hg;exact ⟨cur,h1⟩
theorem gV {w w':World} {base E sz n:Nat} {v:Value} {us:List Value} (h:w.ownsRow base E sz v n us) (hk:∀ g,ag v=some g->w'.heap[g]? = w.heap[g]?):w'.ownsRow base E sz v n us:=by
 refine ⟨h.1,?_⟩;rcases h.2 with h|⟨g',cap,cur,rfl,h0,h1,h2⟩
 . exact .inl h
 . exact .inr ⟨g',cap,cur,rfl,h0,(hk g' rfl).trans h1,h2⟩
def HS:Hole where
 σ:=SS
 hb s w b:=b=s.sm.1\/b=s.bo\/∃ v,w.cell? ⟨s.bo,0,none⟩=some v/\ag v=some b
 I s M w:=HM.I s.sm M w/\s.sm.1≠s.bo/\(∃ v T,w.heap[s.bo]? = some (.cells #[v] T (0,0))/\K1 M w s.sm.1 s.bo v s.outs)/\aw M w (.ptr eN) s.pr (bR s.sm)/\aw M w (.ptr (.int .i64)) s.pa (eS s.sm)/\aw M w (.ptr .raw) s.pp s.pf
 keep s M w M' w' h hst hk:=by
  obtain ⟨h1,h2,⟨v,T,h3,us,h4,h5,h6,h7⟩,h8,h9,h10⟩:=h;have hc:w.cell? ⟨s.bo,0,none⟩=some v:=cj h3 rfl;refine ⟨HM.keep s.sm M w M' w' h1 hst fun b hb=>hk b (.inl hb),h2,⟨v,T,(hk s.bo (.inr (.inl rfl))).trans h3,us,h4,gV h5 fun g hg=>hk g (.inr (.inr ⟨v,hc,hg⟩)),fun i u l e1 e2=>(h6 i u l e1 e2).mono hst,h7⟩,h8.mono hst,h9.mono hst,h10.mono hst⟩
 same s M w w' h hk b hb:=by
  rcases hb with hb|hb|⟨v,hv,hvb⟩
  . exact .inl hb
  . exact .inr (.inl hb)
  . refine .inr (.inr ⟨v,?_,hvb⟩);rw [<- hv];exact (World.cell?_of_block (a:=⟨s.bo,0,none⟩) (hk s.bo (.inr (.inl rfl)))).symm
 lt s M w b h hb:=by
  obtain ⟨⟨es,c,h1,_⟩,h2,⟨v,T,h3,us,h4,h5,h6,h7⟩,h8⟩:=h;rcases hb with rfl|rfl|⟨v',hv,hvb⟩
  . exact (Array.getElem?_eq_some_iff.1 h1).1
  . exact (Array.getElem?_eq_some_iff.1 h3).1
  . have hc:w.cell? ⟨s.bo,0,none⟩=some v:=cj h3 rfl;rw [hc] at hv;cases hv;obtain ⟨cur,e⟩:=gC h5 hvb;exact (Array.getElem?_eq_some_iff.1 e).1
 nd s M w b c h hb e:=by
  obtain ⟨⟨es,c',h1,_⟩,h2,⟨v,T,h3,us,h4,h5,h6,h7⟩,h8⟩:=h;rcases hb with rfl|rfl|⟨v',hv,hvb⟩
  . rw [h1] at e;cases e
  . rw [h3] at e;cases e
  . have hc:w.cell? ⟨s.bo,0,none⟩=some v:=cj h3 rfl;rw [hc] at hv;cases hv;obtain ⟨cur,e'⟩:=gC h5 hvb;rw [e'] at e;cases e
theorem Ta {s:SS} {sp:Spec} (h:fe Tryz.prog HM s.sm sp):fe Tryz.prog HS s sp:=by
 intro x M w vs r hI hs hvs hlt hh hf;have hs0:=hs;obtain ⟨h1,h2,⟨v,T,h3,us,h4,h5,h6,h7⟩,h8,h9,h10⟩:=hs;have hc:w.cell? ⟨s.bo,0,none⟩=some v:=cj h3 rfl;refine (h x M w vs r hI h1 hvs hlt (fun b hb=>hh b (.inl hb)) hf).mono ?_;rintro e w' ⟨u,rfl,g1,g2,g3⟩;refine ⟨u,rfl,⟨g1.os,g1.tape,g1.output,g1.size,fun k hk=>g1.block k ⟨hk.1,fun e=>hk.2 (.inl e)⟩⟩,fun w1 hsz hf1 hk1=>?_,g3⟩;have hblt:s.bo<w.heap.size:=(Array.getElem?_eq_some_iff.1 h3).1;have hoth:∀ k,k<w.heap.size->k≠s.sm.1->w1.heap[k]? = w.heap[k]? := fun k hk hne=>by
  by_cases hB:HS.hb s w k
  . rw [hk1 k hB];exact g1.block k ⟨hk,hne⟩
  . exact hf1.block k ⟨hk,hB⟩
 have hfm:Fr (fun k=>k<w.heap.size/\¬ HM.hb s.sm w k) w w1:=⟨hf1.os,hf1.tape,hf1.output,hf1.size,fun k hk=>hoth k hk.1 hk.2⟩
 have hst:aL M w M w1:=fun b o v' hcb hm=>by
  have hne:b≠s.sm.1:=fun e=>hm (hh b (.inl e) o)
  exact ⟨(World.cell?_of_block (a:=⟨b,o,none⟩) (hoth b (c_ hcb) hne)).trans hcb,hm⟩
 have hbo:w1.heap[s.bo]? = some (.cells #[v] T (0,0)):=(hoth s.bo hblt fun e=>h2 e.symm).trans h3;have hc1:w1.cell? ⟨s.bo,0,none⟩=some v:=cj hbo rfl;refine ⟨⟨(g2 w1 hsz hfm fun k hk=>hk1 k (.inl hk)).1,h2,⟨v,T,hbo,us,h4,gV h5 fun g hg=>?_,fun i u l e1 e2=>(h6 i u l e1 e2).mono hst,h7⟩,h8.mono hst,h9.mono hst,h10.mono hst⟩,fun b hb=>?_⟩
 . obtain ⟨cur,e⟩:=gC h5 hg;exact hoth g (Array.getElem?_eq_some_iff.1 e).1 (h7 g hg).1
 . rcases hb with hb|hb|⟨v',hv,hvb⟩
   . exact .inl hb
   . exact .inr (.inl hb)
   . rw [hc1] at hv;cases hv;exact .inr (.inr ⟨v,hc,hvb⟩)
theorem yi {s:SS} {sp:Spec} (hk:sp.kind = .call) (h:fe Tryz.prog HM s.sm sp):cT Tryz.prog HS s sp:=.inr ⟨hk,Ta h⟩
open Go.RowKit (Below)
def cK (a b:Value):Bool:=open Classical in decide (a=b)
theorem iA {a b:Value} (h:cK a b=true):a=b:=by
 unfold cK at h;exact @of_decide_eq_true _ (Classical.propDecidable _) h
theorem fV (a:Value):cK a a=true:=by unfold cK;exact @decide_eq_true _ (Classical.propDecidable _) rfl
def bL (l:List Nat) (st:St):Bool:=l.all fun i => !au (get st i)
def bE (l:List Nat) (st:St):St:=l.foldl (fun st i=>st.set i .und) st
section
variable {a : Act} {w : World} {o : Oper}
theorem kM {T p:Nat} {t:Ty} (hty:bj Tryz.prog 9 T=some t) (hag:t.agg=false) (hts:t.size=1) (ho:o.op = .load T (.tmp p)) {b:Nat} {v:Value} {E:Nat} (ht:tm a p = .pointer (some ⟨b,0,none⟩)) (hh:w.heap[b]? = some (.cells #[v] E (0,0))) :
 (execOp a.eval o).run Tryz.prog w = .ok (.value v) w:=by
 have:=gr (P:=Tryz.prog) (n:=9) (T:=T) (t:=t) (w:=w) (b:=b) (off:=0) (us':=[]) (c1:=[v]) hty hh rfl hts.symm;have e1:a.eval (.tmp p) = .pointer (some ⟨b,0,none⟩):=ht;have e2:aP t [v]=v:=by unfold aP;rw [hag];rfl
 rw [e2] at this;simp [execOp,ho,e1,Instr.loadAt,Instr.sureAddr,this]
theorem yw {T p q:Nat} {t:Ty} (hty:bj Tryz.prog 9 T=some t) (hts:t.size=1) (ho:o.op = .store T (.tmp p) (.tmp q)) {b:Nat} {v u:Value} {E:Nat} (ht:tm a p = .pointer (some ⟨b,0,none⟩)) (hq:tm a q=u) (hu:u.oneCell'=true) (huc:u.cells = #[u]) (hh:w.heap[b]? = some (.cells #[v] E (0,0))) :
 (execOp a.eval o).run Tryz.prog w = .ok .skip (w.setRow b #[u]):=by
 have e1:a.eval (.tmp p) = .pointer (some ⟨b,0,none⟩):=ht;have e3:a.eval (.tmp q)=u:=hq;have hrun:=ki (P:=Tryz.prog) (n:=9) (T:=T) (t:=t) hty (o:=0) (v:=u) (by rw [huc,hts];rfl) hh (by rw [hts];show 0+1<=1;omega) (by rw [huc];intro x hx;simp at hx;rw [hx];exact hu);rw [huc,hts] at hrun;simp only [execOp,ho,e1,e3,Instr.storeAt,Instr.sureAddr,Sem.run_bind,Sem.run_pure,Result.andThen_ok];rw [hrun];rfl
theorem Pc {q:Nat} (ho:o.op = .buildSlice 37 1 #[(0,.tmp q)]) {ad:Option Addr} {n c:Nat} (h1:tm a q = .slice ad n c):(execOp a.eval o).run Tryz.prog w = .ok (.value (.slice (some ⟨w.heap.size,0,none⟩) 1 1)) (w.alloc (.cells #[.slice ad n c] 25)):=by
 have e1:a.eval (.tmp q) = .slice ad n c:=h1;simp only [execOp,ho,List.map_toArray,List.map_cons,List.map_nil,e1];simp [go_sem]
theorem xK {P:Program} {w:World} {t ty e:TypeId} {i:TypeInfo} {z:Value} (ht:P.underlying t=some (.slice e)) (hi:P.info? e=some i) (hz:i.zero=some z) (hsize:i.size=1) (hby:i.bytes<=1000) (hzs:z.cells.size=1)
 {v:Value} {us:List Value} (hown:w.ownsRow 0 e 1 v us.length us) {b:Nat} {x:Value} (hc:w.cell? ⟨b,0,none⟩=some x) (hx:x.oneCell'=true) (hlen:us.length<1000000000) :
 ∃ v' w',(Builtin.append_ #[t,t] ty #[v,.slice (some ⟨b,0,none⟩) 1 1]).run P w = .ok v' w'/\w'.ownsRow 0 e 1 v' (us++[x]).length (us++[x])/\w.grownBy w' (ag v)/\(ag v'=ag v\/ag v'=some w.heap.size):=by
 have hn:∀ (j:Nat) u,[x][j]? = some u->w.cell? ((⟨b,0,none⟩:Addr).add j)=some u:=fun j u hj=>by
  match j,hj with
  | 0,hj=>cases hj;exact hc
  | j+1,hj=>cases hj
 have h1:∀ u∈[x],u.oneCell'=true:=fun u hu=>by simp at hu;subst hu;exact hx
 have hbb:(us.length+1) * i.bytes<=140737488355328:=by
  have:(us.length+1) * i.bytes<=1000000000 * 1000:=Nat.mul_le_mul (by omega) hby;omega
 obtain ⟨v',w',g1,g2,g3,_⟩:=run_append_own (P:=P) w 0 t ty e i z 1 i.bytes ht hi hz hsize rfl hzs (by omega) v us.length us hown ⟨b,0,none⟩ 1 1 [x] rfl hn h1 (by unfold maxLen;omega) hbb (by omega);have hsz1:[x].length=1 * i.size:=by rw [hsize];rfl
 refine ⟨v',w',g1,by simpa using g2,?_,?_⟩
 . have:v.ownBlock=ag v:=by rcases hown.2 with ⟨rfl,_⟩|⟨g,cap,cur,rfl,_⟩<;>rfl
   rw [<- this];exact g3
 rcases hown.2 with ⟨rfl,h0⟩|⟨g,cap,cur,rfl,_,hg,hnc,hcm,hcs,htake⟩
 . have hr:=Go.run_append_nil (P:=P) w t ty e i z ht hi hz ⟨b,0,none⟩ 1 1 [x] hsz1 hn (by omega) (by omega) (by omega);rw [hr] at g1;cases g1;exact .inr rfl
 . by_cases hroom:us.length+1<=cap
   . have hr:=Go.run_append_room (P:=P) w t ty e i ht hi g us.length cap cur hg ⟨b,0,none⟩ 1 1 [x] hsz1 hn h1 hroom (by rw [hsize,hcs];simp;omega);rw [hr] at g1;cases g1;exact .inl rfl
   . have holds:∀ (j:Nat) u,us[j]? = some u->w.cell? ((⟨g,0,none⟩:Addr).add j)=some u:=hown.cells (g:=g) rfl;have hr:=Go.run_append_grow (P:=P) w t ty e i z ht hi hz ⟨g,0,none⟩ us.length cap us (by rw [hsize];simp) holds ⟨b,0,none⟩ 1 1 [x] hsz1 hn (by omega) (by omega) (growslice_fits (by omega) hbb);rw [hr] at g1;cases g1;exact .inr rfl
theorem O9 {p q:Nat} {v:Value} {us:List Value} {x:Value} {b:Nat} (ho:o.op = .call { callee:=.builtin .append,args := #[.tmp p,.tmp q],argTypes := #[37,37] }) (h0:tm a p=v) (h1:tm a q = .slice (some ⟨b,0,none⟩) 1 1)
 (hown:w.ownsRow 0 25 1 v us.length us) (hc:w.cell? ⟨b,0,none⟩=some x) (hx:x.oneCell'=true) (hlen:us.length<1000000000) :
 ∃ v' w',(execOp a.eval o).run Tryz.prog w = .ok (.value v') w'/\w'.ownsRow 0 25 1 v' (us++[x]).length (us++[x])/\w.grownBy w' (ag v)/\(ag v'=ag v\/ag v'=some w.heap.size):=by
 have e0:a.eval (.tmp p)=v:=h0;have e1:a.eval (.tmp q) = .slice (some ⟨b,0,none⟩) 1 1:=h1;obtain ⟨v',w',g1,g2⟩:=xK (P:=Tryz.prog) (w:=w) (t:=37) (ty:=o.type) (e:=25) (i:=(Tryz.prog.info? 25).getD default) (z:=.slice none 0 0) (by kernel_rfl) (by kernel_rfl) (by kernel_rfl) (by kernel_rfl) (of_decide_eq_true (by kernel_rfl)) (by kernel_rfl) hown hc hx hlen;refine ⟨v',w',?_,g2⟩;simp [execOp,ho,resolve,e0,e1,invoke,builtin,g1]
end
def xJ (nt p q n1 n2 n3 n4:Nat) (s:HS.σ) (st:St):Bool×Outs HS :=
 match get st p with
 | .d .raw v=>(match get st q with
  | .d (.list (.int .i64)) now=>((st.length==nt && bL [n1,n2,n3,n4] st) && (cK v (SS.po s) && decide ((SS.outs s).length<999999999)),.some [(SS.add s [now],bE [n1,n2,n3,n4] st)])
  | _=>(false,.some []))
 | _=>(false,.some [])
theorem Hh {w:World} {n:Nat} {v:Value} {us:List Value} (h:w.ownsRow 0 25 1 v n us):v.oneCell'=true/\v.cells = #[v]:=by
 rcases h.2 with ⟨rfl,_⟩|⟨g,cap,cur,rfl,_⟩<;>exact ⟨rfl,rfl⟩
theorem lU {w:World} {b:Nat} {C D:Array Value} {E:TypeId} {fz:Nat×Nat} (h:w.heap[b]? = some (.cells C E fz)):(w.setRow b D).heap[b]? = some (.cells D E fz):=by
 unfold World.setRow;simp [Array.getElem?_modify,h]
theorem setRow_other {w:World} {b k:Nat} {D:Array Value} (h:k≠b):(w.setRow b D).heap[k]? = w.heap[k]? := by
 unfold World.setRow;simp [Array.getElem?_modify,Ne.symm h]
theorem setRow_size {w:World} {b:Nat} {D:Array Value}:(w.setRow b D).heap.size=w.heap.size:=by
 unfold World.setRow;simp
theorem gc {H:Hole} {F:Nat->Prop} {M0:Base} {s:H.σ} {M:ai} {st:St} {a:Act} {w:World} (h:bv H F M0 s M st a w):∀ (l:List (Nat×Value)) (st:St) (a:Act),bv H F M0 s M st a w->bL (l.map (·.1)) st=true ->
 bv H F M0 s M (bE (l.map (·.1)) st) (l.foldl (fun a p=>a.put (some p.1) p.2) a) w
 | [],st,a,h,_=>h
 | (d,v) :: l,st,a,h,hb=>by
  have hb0:au (get st d)=false:=by
   have:=List.all_eq_true.1 hb d (by simp)
   simpa using this
  have hf:=h.focus.fin (dst:=some d) (s:=.und) (v:=v) (fun d' hd=>by cases hd;exact hb0) rfl trivial;have h1:bv H F M0 s M (st.set d .und) (a.put (some d) v) w:=h.unfocus (Fr.refl _ _) hf;refine gc h1 l _ _ h1 ?_;refine List.all_eq_true.2 fun i hi=>?_
  by_cases e:i=d
  . subst e;rcases Nat.lt_or_ge i st.length with hlt|hge
    . rw [bu st _ _ _ hlt,if_pos rfl];rfl
    . rw [b7 (by simpa using hge)];rfl
  . rw [eU e];exact List.all_eq_true.1 hb i (by simp [hi])
theorem Vb {M:ai} {w:World} {st:St} {a:Act} {v:Value} {x:List Int} (h:aI M w st a v (.d (.list (.int .i64)) x)):∃ ad n c,v = .slice ad n c:=by
 obtain ⟨cs,rfl,ad,cap,rfl,_⟩:=h;exact ⟨ad,x.length,cap,rfl⟩
theorem LA {ops:Array Oper} {i p q n1 n2 n3 n4:Nat} (x0:(ops.toList.map a_)[i]? = some (some n1,.load 37 (.tmp p),none)) (x1:(ops.toList.map a_)[i+1]? = some (some n2,.move (.tmp q),none))
 (x2:(ops.toList.map a_)[i+2]? = some (some n3,.buildSlice 37 1 #[(0,.tmp n2)],none)) (x3:(ops.toList.map a_)[i+3]? = some (some n4,.call { callee:=.builtin .append,args := #[.tmp n1,.tmp n3],argTypes := #[37,37] },none))
 (x4:(ops.toList.map a_)[i+4]? = some (none,.store 37 (.tmp p) (.tmp n4),none)) {nt:Nat} (hd:[p,q,n1,n2,n3,n4].Nodup) (hlt:∀ j∈[n1,n2,n3,n4],j<nt):bw Tryz.prog HS ops i 4 (xJ nt p q n1 n2 n3 n4):=by
 intro F M0 w0 n hI hpl Q rest s st act w hc h1 hK;obtain ⟨o0,i0,d0,p0,q0⟩:=aB rfl x0;obtain ⟨o1,i1,d1,p1,q1⟩:=aB rfl x1;obtain ⟨o2,i2,d2,p2,q2⟩:=aB rfl x2;obtain ⟨o3,i3,d3,p3,q3⟩:=aB rfl x3;obtain ⟨o4,i4,d4,p4,q4⟩:=aB rfl x4;simp only at d0 p0 q0 d1 p1 q1 d2 p2 q2 d3 p3 q3 d4 p4 q4;unfold xJ at h1 hK;split at h1;rotate_left
 . cases h1
 rename_i v ea;split at h1;rotate_left
 . cases h1
 rename_i now eb;simp only [Bool.and_eq_true,decide_eq_true_eq,beq_iff_eq] at h1;obtain ⟨⟨hlen,hnb⟩,hv,hol⟩:=h1;obtain ⟨nowL,hnow⟩:∃ l:List Int,l=now:=⟨_,rfl⟩
 subst hnow;obtain ⟨hfr,M,hG⟩:=id hc;obtain ⟨hm,hne,⟨vo,TB,hbo,us,hul,hown,hreps,hdis⟩,hpr,hpa,hpp⟩:=hG.1;have hg:=hG.2.1;have tp:tm act p = .pointer (some ⟨s.bo,0,none⟩):=by
  have sa:=hg.slot p;rw [ea] at sa;rw [fp (show aw M w .raw (tm act p) v from sa),iA hv];rfl
 have sq:=hg.slot q;rw [eb] at sq;have hrq:aw M w (.list (.int .i64)) (tm act q) nowL:=sq;obtain ⟨ad,ln,cp,tq⟩:=Vb sq;have hsz:act.tmps.size=nt:=hg.size.trans hlen;have l1:=hlt n1 (by simp);have l2:=hlt n2 (by simp);have l3:=hlt n3 (by simp);have l4:=hlt n4 (by simp);simp only [List.nodup_cons,List.mem_cons,List.not_mem_nil,or_false,not_or,not_false_eq_true,List.nodup_nil,and_true] at hd;obtain ⟨⟨a1,a2,a3,a4,a5⟩,⟨b2,b3,b4,b5⟩,⟨c3,c4,c5⟩,⟨e4,e5⟩,f5⟩:=hd;obtain ⟨hob1,hob2⟩:=Hh hown;have hblt:s.bo<w.heap.size:=(Array.getElem?_eq_some_iff.1 hbo).1;show wpOpsIn (aA none) n Tryz.prog ops Q (i :: (i+1) :: (i+2) :: (i+3) :: (i+4) :: rest) act w;rw [wpOpsIn_cons];refine aV i0 (aC q0) (fun c h=>by rw [p0] at h;cases h) (kM (T:=37) (t:=.list (.list (.int .i64))) (by kernel_rfl) rfl rfl p0 tp hbo) ?_;rw [d0,wpOpsIn_cons];refine aV i1 (aC q1) (fun c h=>by rw [p1] at h;cases h) (fQ p1) ?_;rw [d1,wpOpsIn_cons,aj (by omega)];refine aV i2 (aC q2) (fun c h=>by rw [p2] at h;cases h) (Pc p2 (ad:=ad) (n:=ln) (c:=cp) (by rw [ay (by rw [aG];omega)];exact tq)) ?_;rw [d2,wpOpsIn_cons];obtain ⟨w1,hw1⟩:∃ w1,w1=w.alloc (.cells #[.slice ad ln cp] 25):=⟨_,rfl⟩
 rw [<- hw1];have hsz1:w1.heap.size=w.heap.size+1:=by rw [hw1];simp
 have hold1:∀ k,k<w.heap.size->w1.heap[k]? = w.heap[k]? := fun k hk=>by rw [hw1];exact heap_alloc_old w _ hk
 have hown1:w1.ownsRow 0 25 1 vo us.length us:=gV hown fun g hg=>by
  obtain ⟨cur,e⟩:=gC hown hg;exact hold1 g (Array.getElem?_eq_some_iff.1 e).1
 have hc1:w1.cell? ⟨w.heap.size,0,none⟩=some (.slice ad ln cp):=cj (by rw [hw1];exact heap_alloc_new w _) rfl;obtain ⟨v',w2,hr3,hown2,hgr2,hblk⟩:=O9 (a:=((act.put (some n1) vo).put (some n2) (tm act q)).put (some n3) (.slice (some ⟨w.heap.size,0,none⟩) 1 1)) (w:=w1) p3 (v:=vo) (us:=us) (x:=.slice ad ln cp) (b:=w.heap.size)
  (by rw [aj (by omega),aj (by omega),ay (by omega)]) (by rw [ay (by rw [aG,aG];omega)]) hown1 hc1 rfl (by omega)
 refine aV i3 (aC q3) (fun c h=>by rw [p3] at h;cases h) hr3 ?_;rw [d3,wpOpsIn_cons];have hRne:∀ g,ag vo=some g->g≠s.sm.1/\g≠s.bo:=hdis;have hbo2:w2.heap[s.bo]? = some (.cells #[vo] TB (0,0)):=by
  rw [hgr2.block s.bo (by omega) fun e=>(hRne s.bo e.symm).2 rfl,hold1 s.bo hblt];exact hbo
 obtain ⟨hov1,hov2⟩:=Hh hown2;refine iG i4 (aC q4) (fun c h=>by rw [p4] at h;cases h) (yw (T:=37) (t:=.list (.list (.int .i64))) (by kernel_rfl) rfl p4 (b:=s.bo) (v:=vo) (u:=v') (E:=TB) ?_ ?_ hov1 hov2 hbo2) ?_
 . rw [aj (by omega),aj (by omega),aj (by omega),aj (by omega)];exact tp
 . rw [ay (by rw [aG,aG,aG];omega)]
 rw [d4,gW];obtain ⟨w3,hw3⟩:∃ w3,w3=w2.setRow s.bo #[v']:=⟨_,rfl⟩
 rw [<- hw3];have hsz3:w3.heap.size=w2.heap.size:=by rw [hw3];exact setRow_size
 have hbo3:w3.heap[s.bo]? = some (.cells #[v'] TB (0,0)):=by rw [hw3];exact lU hbo2
 have hoth3:∀ k,k≠s.bo->w3.heap[k]? = w2.heap[k]? := fun k hk=>by rw [hw3];exact setRow_other hk
 have hout:∀ k,k<w.heap.size->¬ HS.hb s w k->w3.heap[k]? = w.heap[k]? := fun k hk hB=>by
  have hc0:w.cell? ⟨s.bo,0,none⟩=some vo:=cj hbo rfl;rw [hoth3 k fun e=>hB (.inr (.inl e)),hgr2.block k (by omega) fun e=>hB (.inr (.inr ⟨vo,hc0,e.symm⟩)),hold1 k hk]
 have hmlt:s.sm.1<w.heap.size:=by obtain ⟨es,c,e,_⟩:=hm;exact (Array.getElem?_eq_some_iff.1 e).1
 have hm3:w3.heap[s.sm.1]? = w.heap[s.sm.1]? := by
  rw [hoth3 _ hne,hgr2.block _ (by omega) fun e=>(hRne _ e.symm).1 rfl,hold1 _ hmlt]
 have hv'ne:∀ g,ag v'=some g->g≠s.sm.1/\g≠s.bo:=fun g hg'=>by
  rcases hblk with h|h
  . exact hRne g (h ▸ hg')
  . rw [h] at hg';cases hg';omega
 obtain ⟨M',hM'⟩:∃ M':ai,M'=fun b o=>M b o\/(w.heap.size<=b/\b<w3.heap.size):=⟨_,rfl⟩
 have hst:aL M w M' w3:=fun b o u hcb hmb=>by
  have hnb:¬ HS.hb s w b:=fun hB=>hmb ((hG.2.2 b hB).2.1 o)
  refine ⟨(World.cell?_of_block (a:=⟨b,o,none⟩) (hout b (c_ hcb) hnb)).trans hcb,fun h=>?_⟩;rw [hM'] at h;rcases h with h|⟨h,_⟩
  . exact hmb h
  . have:=c_ hcb;omega
 have hc3:w3.cell? ⟨s.bo,0,none⟩=some v':=cj hbo3 rfl;have hHI:HS.I (s.add [nowL]) M' w3:=by
  obtain ⟨es,c,em,hmemo⟩:=hm;have hlen2:(us++[Value.slice ad ln cp]).length=(s.outs++[nowL]).length:=by simp [hul]
  refine ⟨⟨es,c,hm3.trans em,hmemo⟩,hne,⟨v',TB,hbo3,us++[.slice ad ln cp],hlen2,gV hown2 fun g hg'=>hoth3 g (hv'ne g hg').2,fun j u l hu hl=>?_,hv'ne⟩,hpr.mono hst,hpa.mono hst,hpp.mono hst⟩;have hl':(s.outs++[nowL])[j]? = some l:=hl;rcases Nat.lt_or_ge j us.length with hj|hj
  . rw [List.getElem?_append_left hj] at hu;rw [List.getElem?_append_left (by omega)] at hl';exact (hreps j u l hu hl').mono hst
  . rw [List.getElem?_append_right hj] at hu;rw [List.getElem?_append_right (by omega)] at hl';have:j - us.length=0:=by
     rcases Nat.eq_zero_or_pos (j - us.length) with h|h
     . exact h
     . rw [List.getElem?_eq_none (by simp;omega)] at hu;cases hu
    rw [this] at hu;rw [<- hul,this] at hl';cases hu;cases hl';rw [<- tq];exact hrq.mono hst
 have hfr3:Fr (fun k=>k<w.heap.size/\¬ HS.hb s w k) w w3:=by
  refine ⟨?_,?_,?_,?_,fun k hk=>hout k hk.1 hk.2⟩
  . rw [hw3];show w2.os=w.os;rw [hgr2.os,hw1];rfl
  . rw [hw3];show w2.tape=w.tape;rw [hgr2.tape,hw1];rfl
  . rw [hw3];show w2.output=w.output;rw [hgr2.output,hw1];rfl
  . rw [hsz3];have:=hgr2.size;omega
 have hbs:∀ b,HS.hb (s.add [nowL]) w3 b->HS.hb s w b\/w.heap.size<=b:=fun b hb=>by
  rcases hb with hb|hb|⟨u,hu,hub⟩
  . exact .inl (.inl hb)
  . exact .inl (.inr (.inl hb))
  . have hu':w3.cell? ⟨s.bo,0,none⟩=some u:=hu;rw [hc3] at hu';cases hu';rcases hblk with h|h
    . exact .inl (.inr (.inr ⟨vo,cj hbo rfl,h ▸ hub⟩))
    . rw [h] at hub;cases hub;exact .inr (by omega)
 obtain ⟨hfrF,hG3⟩:=hG.grow (s':=s.add [nowL]) (M':=M') (w':=w3) hfr3 hHI (fun b o h=>by rw [hM'];exact .inr (.inl h)) (fun b o h=>by rw [hM'] at h;exact h) hbs fun b hb o=>by
  rw [hM'];rcases hbs b hb with h|h
  . exact .inl ((hG.2.2 b h).2.1 o)
  . exact .inr ⟨h,HS.lt _ _ _ b hHI hb⟩
 have hall:=gc hG3 [(n1,vo),(n2,tm act q),(n3,.slice (some ⟨w.heap.size,0,none⟩) 1 1),(n4,v')] st act hG3 hnb;refine hK (s.add [nowL],bE [n1,n2,n3,n4] st) ?_ _ _ ⟨hfr.trans hfrF,M',hall⟩;rw [ea,eb];exact .head _
open Go.RowKit (Below)
def cI (sm:SM) (now:List Int):List (List Int):=dP sm (sm.2.1.1.2.1.length - now.length) now
structure PutPre (m:Nat) (s:SS) (now:List Int):Prop where
 rd:RdOK s.sm.2.1 s.sm.2.2
 par:ParOK s.sm.2.1.1
 pos:0<s.sm.2.1.1.2.1.length
 len:now.length<=s.sm.2.1.1.2.1.length
 dep:s.sm.2.1.1.2.1.length - now.length+1000<m
 few:s.outs.length+10 ^ (s.sm.2.1.1.2.1.length - now.length)<999999999
 fig:∀ x∈now,0<=x/\x<=9
def kc (m:Nat) (s:SS) (now:List Int):Bool:=open Classical in decide (PutPre m s now)
theorem Uy {m:Nat} {s:SS} {now:List Int} (h:kc m s now=true):PutPre m s now:=by
 unfold kc at h;exact @of_decide_eq_true _ (Classical.propDecidable _) h
theorem Ux {m:Nat} {s:SS} {now:List Int} (h:PutPre m s now):kc m s now=true:=by
 unfold kc;exact @decide_eq_true _ (Classical.propDecidable _) h
def sg (m:Nat):Prop:=∀ (s:SS) (now:List Int) (M:ai) (w:World) (v:Value),PutPre m s now->(∀ w',Fr (fun k=>k<w.heap.size/\¬ HS.hb s w k) w w'->Inv.I Tryz.prog w')->HS.I s M w->aw M w (.list (.int .i64)) v now->(∀ b o,M b o->b<w.heap.size) ->
 (∀ b,HS.hb s w b->∀ o,M b o)->Calls Tryz.prog 114 #[v,s.pr,s.po,s.pa,s.pp] w fun e w'=>(∃ u,e = .returned u)/\Fr (fun k=>k<w.heap.size/\¬ HS.hb s w k) w w'/\(∀ b,HS.hb (s.add (cI s.sm now)) w' b->HS.hb s w b\/w.heap.size<=b) /\
  ∃ M',HS.I (s.add (cI s.sm now)) M' w'/\(∀ b o,M b o->HS.hb s w b\/M' b o)/\(∀ b o,M' b o->M b o\/(w.heap.size<=b/\b<w'.heap.size))/\∀ b,HS.hb (s.add (cI s.sm now)) w' b->∀ o,M' b o
def x_ (m nt p q d:Nat) (s:HS.σ) (st:St):Bool×Outs HS :=
 match get st p with
 | .d .raw v=>(match (get st q).as (.list (.int .i64)) with
  | some now=>((st.length==nt && bL [d] st) && (cK v (SS.pf s) && kc m s now),.some [(SS.add s (cI (SS.sm s) now),bE [d] st)])
  | none=>(false,.some []))
 | _=>(false,.some [])
theorem MS {m:Nat} (hm:sg m) {ops:Array Oper} {i p q d:Nat} (x0:(ops.toList.map a_)[i]? = some (some d,.call { callee:=.value (.tmp p),args := #[.tmp q],argTypes := #[25] },none)) (hent:fG Tryz.prog 114=true) {nt:Nat} :
 dC Tryz.prog HS ops i (x_ m nt p q d):=by
 intro F M0 w0 n hI hpl Q K s st act w hc h1 hK;obtain ⟨o0,i0,d0,p0,q0⟩:=aB rfl x0;simp only at d0 p0 q0;unfold x_ at h1 hK;split at h1;rotate_left
 . cases h1
 rename_i v ea;split at h1;rotate_left
 . cases h1
 rename_i now eb;simp only [Bool.and_eq_true,beq_iff_eq] at h1;obtain ⟨⟨hlen,hnb⟩,hv,hpre⟩:=h1;obtain ⟨hfr,M,hG⟩:=id hc;have hg:=hG.2.1;have tp:tm act p=s.pf:=by
  have sa:=hg.slot p;rw [ea] at sa;rw [fp (show aw M w .raw (tm act p) v from sa),iA hv]
 have hrq:aw M w (.list (.int .i64)) (tm act q) now:=cO (hg.slot q) eb;have hr:(execOp act.eval o0).run Tryz.prog w = .ok (.enter 114 #[tm act q,s.pr,s.po,s.pa,s.pp]) w:=by
  have e0:act.eval (.tmp p) = .func (.func 114) #[] #[s.pr,s.po,s.pa,s.pp]:=tp;have e1:act.eval (.tmp q)=tm act q:=rfl;have e3:=fun args=>dK (P:=Tryz.prog) (g:=114) hent args w
  simp [execOp,p0,resolve,e0,e1,Deferred.ofValue,invoke,e3]
 refine gz i0 (aC q0) (fun c h=>by rw [p0] at h;cases h) hr ?_;have hpre:=Uy hpre;refine (hm s now M w (tm act q) hpre (fun w' hw'=>hI w' (hfr.trans ⟨hw'.os,hw'.tape,hw'.output,hw'.size,fun k hk=>hw'.block k ⟨hg.room k hk,fun hB=>(hG.2.2 k hB).1 hk⟩⟩)) hG.1 hrq hg.lt fun b hB=>(hG.2.2 b hB).2.1).mono ?_;rintro e w' ⟨⟨u,rfl⟩,g1,g2,M',g3,g4,g5,g6⟩;refine ⟨u,rfl,?_⟩;obtain ⟨f1,f2⟩:=hG.grow g1 g3 g4 g5 g2 g6;rw [d0];have hall:=gc f2 [(d,u)] st act f2 hnb;refine hK (s.add (cI s.sm now),bE [d] st) ?_ _ _ ⟨hfr.trans f1,M',hall⟩;rw [ea,eb];exact .head _
def Bm:List Spec:=[AW]
def iv:List (Nat×List Nat):=[(4,[0,1,3,4,6,23])]
def oa (m:Nat) (s:SS):List Spec:=[rt (SS.sm s) m,uG (SS.sm s) m,uH (SS.sm s) m,AW]
def Ab:Array Oper:=bp 2 (av Tryz.f114)
def vy:Nat->Option (Nat×(SS->St->Bool×Outs HS)):=fun i=>match i with|0=>some (4,xJ 64 2 0 19 20 21 22)|_=>none
theorem J5:∀ i y,vy i=some y->bw Tryz.prog HS Ab i y.1 y.2:=by
 intro i y h;unfold vy at h;split at h
 . cases h;exact LA (i:=0) (by kernel_rfl) (by kernel_rfl) (by kernel_rfl) (by kernel_rfl) (by kernel_rfl) (by decide) (by decide)
 . cases h
def Ac:Array Oper:=bp 6 (av Tryz.f114)
def Cx:Option (SS->St->Bool×Outs HS):=none
theorem J6:∀ g,Cx=some g->dC Tryz.prog HS Ac 7 g:=fun _ h=>by cases h
def Ad:Array Oper:=bp 9 (av Tryz.f114)
def Cy:Option (SS->St->Bool×Outs HS):=none
theorem J7:∀ g,Cy=some g->dC Tryz.prog HS Ad 11 g:=fun _ h=>by cases h
def Aa:Array Oper:=bp 11 (av Tryz.f114)
def Cw (m:Nat):Option (SS->St->Bool×Outs HS):=some (x_ m 64 56 61 62)
theorem J4 {m:Nat} (hm:sg m):∀ g,Cw m=some g->dC Tryz.prog HS Aa 6 g:=by
 intro g h;cases h;exact MS hm (by kernel_rfl) (by kernel_rfl)
def xn (m:Nat):List (List Nat×HdH HS):=[([1,0,1,0,0],⟨fun {ρ} k s st=>cf Tryz.prog HS (fun s=>ah (oa m s)) iv vy 2 Ab k s st⟩),
 ([1,1,1,0,0,1,1,0,0,1,0],⟨fun {ρ} k s st=>nN Tryz.prog HS (fun s=>ah (oa m s)) iv 7 Cx 6 Ac k s st⟩),
 ([1,1,1,0,0,1,1,0,0,1,1,0,1,0,1],⟨fun {ρ} k s st=>nN Tryz.prog HS (fun s=>ah (oa m s)) iv 11 Cy 9 Ad k s st⟩),
 ([1,1,1,0,0,1,1,0,0,1,1,1,1,0],⟨fun {ρ} k s st=>nN Tryz.prog HS (fun s=>ah (oa m s)) iv 6 (Cw m) 11 Aa k s st⟩)]
theorem K' (m:Nat) (hm:sg m) (h:∀ s,∀ sp∈oa m s,cT Tryz.prog HS s sp):bG Tryz.prog HS (av Tryz.f114) (xn m):=(bJ (c' := .region 2 Ab false) (by kernel_rfl) (cr (fun s g sp hs=>h s sp (List.mem_filter.1 hs).1) iv J5) (bJ (c' := .region 6 Ac true) (by kernel_rfl) (AH mixed (fun s g sp hs=>h s sp (List.mem_filter.1 hs).1) iv J6) (bJ (c' := .region 9 Ad true) (by kernel_rfl) (AH mixed (fun s g sp hs=>h s sp (List.mem_filter.1 hs).1) iv J7) (bJ (c' := .region 11 Aa true) (by kernel_rfl) (AH mixed (fun s g sp hs=>h s sp (List.mem_filter.1 hs).1) iv (J4 hm)) dU))))
def L100_0 (m:Nat) (s:SS) (N:Nat) (n_L100_0:Nat) (x:((List Int)×((((Int×((List (Int×((List Int)×Unit)))×Unit))×((List (List Int))×Unit))×(Int×(Value×Unit)))×(Value×(Int×(Value×Unit)))))) (t23_1:Int) (s_2:SS):Out (SS×Unit) :=
 ev Tryz.prog HS (ah Bm) iv N (xn m) Tryz.f114 true false .unit [1,1,1,0] n_L100_0 s_2 [.d (.list (.int .i64)) x.1,.ref (.prod (.prod (.prod (.int .i64) (.prod (.list (.prod (.int .i64) (.prod (.list (.int .i64)) .unit))) .unit)) (.prod (.list (.list (.int .i64))) .unit)) (.prod (.int .i64) (.prod .raw .unit))) x.2.1,.und,.ref (.int .i64) x.2.2.2.1,.ref .raw x.2.2.2.2.1,.und,.d (.int .i64) (ae x.1),.und,.und,.und,.und,.und,.und,.und,.und,.und,.und,.und,.und,.und,.und,.und,.und,.d (.int .i64) t23_1,.und,.und,.und,.und,.und,.und,.und,.und,.und,.und,.und,.und,.und,.und,.und,.und,.und,.und,.und,.und,.und,.und,.und,.und,.und,.und,.und,.und,.und,.und,.und,.und,.und,.und,.und,.und,.und,.und,.und,.und]
theorem L100_0_succ (m:Nat) (s:SS) (N:Nat) (n_L100_0:Nat) (x:((List Int)×((((Int×((List (Int×((List Int)×Unit)))×Unit))×((List (List Int))×Unit))×(Int×(Value×Unit)))×(Value×(Int×(Value×Unit)))))) (t23_1:Int) (s_2:SS):L100_0 m s N  (n_L100_0+1) x t23_1 s_2 =
 (
 match (decide (t23_1<(10:Int))) with
 | true =>
  match fR (SS.sm s_2) m (x.2.1,(((0:Int),(t23_1,())),())) with
  | .ret r_3 =>
   match (decide ((ae x.1) > (0:Int))) with
   | true =>
    bif (ax (ae x.1) x.2.1.1.1.2.1.length) then
     bif (ax ((List.getD x.2.1.1.1.2.1 (ae x.1).toNat ((0:Int),(([]:List Int),())))).1 x.1.length) then
      match f101 (SS.sm s_2) m (x.2.1,((ae x.1),(t23_1,((List.getD x.1 ((List.getD x.2.1.1.1.2.1 (ae x.1).toNat ((0:Int),(([]:List Int),())))).1.toNat (0:Int)),())))) with
      | .ret r_5 =>
       match ik (SS.sm s_2) m (x.2.1,((ae x.1),((List.getD x.1 ((List.getD x.2.1.1.1.2.1 (ae x.1).toNat ((0:Int),(([]:List Int),())))).1.toNat (0:Int)),()))) with
       | .ret r_7 =>
        match (r_5==r_7) with
        | true =>
         match mN (x.1,()) with
         | .ret r_9 =>
          bif (bQ r_9 ([t23_1]:List Int)) then
           bif (cK x.2.2.2.2.1 (SS.pf s_2) && kc m s_2 (r_9++([t23_1]:List Int))) then
            L100_0 m s N n_L100_0 x (IntKind.i64.wrap (t23_1+(1:Int))) (SS.add s_2 (cI (SS.sm s_2) (r_9++([t23_1]:List Int))))
           else .fail
          else .fail
         | .pan p_10 =>
          .fail
         | .fail=>.fail
        | false =>
         L100_0 m s N n_L100_0 x (IntKind.i64.wrap (t23_1+(1:Int))) s_2
       | .pan p_8 =>
        .fail
       | .fail=>.fail
      | .pan p_6 =>
       .fail
      | .fail=>.fail
     else .fail
    else .fail
   | false =>
    match (r_3==x.2.2.2.1) with
    | true =>
     match mN (x.1,()) with
     | .ret r_11 =>
      bif (bQ r_11 ([t23_1]:List Int)) then
       bif (cK x.2.2.2.2.1 (SS.pf s_2) && kc m s_2 (r_11++([t23_1]:List Int))) then
        L100_0 m s N n_L100_0 x (IntKind.i64.wrap (t23_1+(1:Int))) (SS.add s_2 (cI (SS.sm s_2) (r_11++([t23_1]:List Int))))
       else .fail
      else .fail
     | .pan p_12 =>
      .fail
     | .fail=>.fail
    | false =>
     L100_0 m s N n_L100_0 x (IntKind.i64.wrap (t23_1+(1:Int))) s_2
  | .pan p_4 =>
   .fail
  | .fail=>.fail
 | false =>
  .ret (s_2,()):Out (SS×Unit)):=by
 kernel_rfl
def v7 (m:Nat) (s:SS) (N:Nat) (x:((List Int)×((((Int×((List (Int×((List Int)×Unit)))×Unit))×((List (List Int))×Unit))×(Int×(Value×Unit)))×(Value×(Int×(Value×Unit)))))):Out (SS×Unit) :=
 match ((ae x.1)==(ae x.2.1.1.1.2.1)) with
 | true =>
  bif (cK x.2.2.1 (SS.po s) && decide ((SS.outs s).length<999999999)) then
   .ret ((SS.add s [x.1]),())
  else .fail
 | false =>
  L100_0 m s N N x (0:Int) s
theorem NF (m:Nat) (s:SS) (N:Nat) (x:((List Int)×((((Int×((List (Int×((List Int)×Unit)))×Unit))×((List (List Int))×Unit))×(Int×(Value×Unit)))×(Value×(Int×(Value×Unit)))))):cD Tryz.prog HS (ah Bm) iv N (xn m) Tryz.f114 true false (.prod (.list (.int .i64)) (.prod (.ptr (.prod (.prod (.prod (.int .i64) (.prod (.list (.prod (.int .i64) (.prod (.list (.int .i64)) .unit))) .unit)) (.prod (.list (.list (.int .i64))) .unit)) (.prod (.int .i64) (.prod .raw .unit)))) (.prod .raw (.prod (.ptr (.int .i64)) (.prod (.ptr .raw) .unit))))) .unit s x=v7 m s N x:=by
 kernel_rfl
open Go.RowKit (Below)
theorem Fy {α β:Type} {f:α->List β} {B:Nat}:∀ (l:List α),(∀ x∈l,(f x).length<=B)->(l.flatMap f).length<=l.length * B
 | [],_=>by simp
 | x :: l,h=>by
  rw [List.flatMap_cons,List.length_append,List.length_cons,Nat.add_mul,Nat.one_mul];have:=Fy l fun y hy=>h y (by simp [hy])
  have:=h x (by simp);omega
theorem Hz (sm:SM):∀ (k:Nat) (now:List Int),(dP sm k now).length<=10 ^ k
 | 0,now=>by simp [dP]
 | k+1,now=>by
  unfold dP;have:=Fy (B:=10 ^ k) (f:=fun (g:Nat)=>if dD sm now g then dP sm k (now++[(g:Int)]) else []) (List.range 10) fun g _=>by
   split
   . exact Hz sm k _
   . simp
  rw [List.length_range] at this;rw [Nat.pow_succ];omega
theorem K5 (s:SS) (a b:List (List Int)):(s.add a).add b=s.add (a++b):=by
 unfold SS.add;simp [List.append_assoc]
theorem K6 (s:SS):s.add []=s:=by unfold SS.add;simp
abbrev Dw:Type:=List Int×RD×Value×Int×Value×Unit
def iU (s:SS) (now:List Int):Dw:=(now,(bR s.sm,(s.po,(eS s.sm,(s.pf,())))))
theorem Sw {m:Nat} {s:SS} {now:List Int} (hp:PutPre (m+1) s now) (hl:now.length<s.sm.2.1.1.2.1.length) {x:Dw} (hx:x=iU s now) :
 ∀ (d f:Nat) (i:Int) (s2:SS),d<f->0<=i->i+d=10->SS.sm s2=s.sm->SS.pf s2=s.pf->s2.outs.length+d * 10 ^ (s.sm.2.1.1.2.1.length - (now.length+1))<999999999 ->
  L100_0 m s fuel f x i s2 = .ret (s2.add (((List.range 10).drop i.toNat).flatMap fun (g:Nat)=>if dD s.sm now g then dP s.sm (s.sm.2.1.1.2.1.length - (now.length+1)) (now++[(g:Int)]) else []),()):=by
 have hlen:=hp.rd.len;have hdep:=hp.dep;have ex1:x.1=now:=by rw [hx];rfl
 have ex2:x.2.1=bR s.sm:=by rw [hx];rfl
 have ex3:x.2.2.2.1=eS s.sm:=by rw [hx];rfl
 have ex4:x.2.2.2.2.1=s.pf:=by rw [hx];rfl
 obtain ⟨T,hT⟩:∃ T:ac,T=s.sm.2.1.1:=⟨_,rfl⟩
 have ex5:x.2.1.1.1=T:=by rw [hx,hT];rfl
 rw [<- hT] at hl hlen hdep;have hpar:0<now.length->0<=(List.getD T.2.1 (ae now).toNat ((0:Int),(([]:List Int),()))).1/\(List.getD T.2.1 (ae now).toNat ((0:Int),(([]:List Int),()))).1<now.length:=fun h=>by
  have:=hp.par.par now.length h (by rw [<- hT];exact hl);rw [<- hT] at this;exact this
 intro d
 induction d with
 | zero =>
  intro f i s2 hf h0 hi e1 e2 hb;obtain ⟨f,rfl⟩:∃ f',f=f'+1:=⟨f - 1,by omega⟩
  rw [L100_0_succ];have h1:decide (i<(10:Int))=false:=decide_eq_false (by omega);rw [h1,ph (by simp;omega),List.flatMap_nil,K6]
 | succ d ih =>
  intro f i s2 hf h0 hi e1 e2 hb;obtain ⟨f,rfl⟩:∃ f',f=f'+1:=⟨f - 1,by omega⟩
  rw [L100_0_succ,ex5,ex1,ex2,ex3,ex4,e1,e2];have h1:decide (i<(10:Int))=true:=decide_eq_true (by omega);have hdp:∀ fr:Int,0<=fr->fr<T.2.1.length->dep s.sm fr m:=fun fr h2 h3=>⟨hp.rd,h2,by rw [<- hT];exact h3,by rw [<- hT];omega⟩
  have h2:fR s.sm m (bR s.sm,(((0:Int),(i,())),())) = .ret (br s.sm 0 i):=by
   unfold fR;rw [if_pos ⟨rfl,hdp 0 (by omega) (by omega),h0,by dsimp only;omega⟩]
  have h3:mN (now,()) = .ret now:=by
   unfold mN;have:decide (now.length<1000000)=true:=decide_eq_true (by omega);simp [this]
  have h4:bQ now [i]=true:=by unfold bQ;simp;omega
  have ed:(((List.range 10).getD i.toNat 0:Nat):Int)=i:=by
   rw [List.getD_eq_getElem?_getD,List.getElem?_range (by omega)];simp;omega
  have hpow:0<10 ^ (T.2.1.length - (now.length+1)):=Nat.pow_pos (by omega);rw [<- hT] at hb;have hb':s2.outs.length+d * 10 ^ (T.2.1.length - (now.length+1))+10 ^ (T.2.1.length - (now.length+1))<999999999:=by
   have:(d+1) * 10 ^ (T.2.1.length - (now.length+1))=d * 10 ^ (T.2.1.length - (now.length+1))+10 ^ (T.2.1.length - (now.length+1)):=by rw [Nat.add_mul,Nat.one_mul]
   omega
  have hpb:kc m s2 (now++[i])=true:=by
   refine Ux ⟨by rw [e1];exact hp.rd,by rw [e1];exact hp.par,by rw [e1];exact hp.pos,by rw [e1,<- hT];simp;omega,by rw [e1,<- hT];simp;omega,?_,fun y hy=>?_⟩
   . rw [e1,<- hT];simp only [List.length_append,List.length_singleton];omega
   . rcases List.mem_append.1 hy with hy|hy
     . exact hp.fig y hy
     . rw [List.mem_singleton] at hy;omega
  have hdrop:((List.range 10).drop i.toNat).flatMap (fun (g:Nat)=>if dD s.sm now g then dP s.sm (T.2.1.length - (now.length+1)) (now++[(g:Int)]) else []) =
   (if dD s.sm now i then dP s.sm (T.2.1.length - (now.length+1)) (now++[i]) else [])++((List.range 10).drop (i+1).toNat).flatMap (fun (g:Nat)=>if dD s.sm now g then dP s.sm (T.2.1.length - (now.length+1)) (now++[(g:Int)]) else []):=by
   rw [pg h0 (by simp;omega) 0,List.flatMap_cons,ed]
  have hall:cI s.sm (now++[i])=dP s.sm (T.2.1.length - (now.length+1)) (now++[i]):=by
   unfold cI;rw [<- hT,List.length_append];rfl
  have yes:dD s.sm now i=true->L100_0 m s fuel f x (IntKind.i64.wrap (i+1)) (SS.add s2 (cI s.sm (now++[i]))) = .ret (s2.add (((List.range 10).drop i.toNat).flatMap fun (g:Nat)=>if dD s.sm now g then dP s.sm (T.2.1.length - (now.length+1)) (now++[(g:Int)]) else []),()):=fun hok=>by
   rw [wr (by omega) (by omega),hdrop,hok,if_pos rfl,hall,<- K5];rw [hT];refine ih f (i+1) _ (by omega) (by omega) (by omega) e1 e2 ?_;rw [<- hT];show (s2.outs++_).length+_<_;rw [List.length_append];have:=Hz s.sm (T.2.1.length - (now.length+1)) (now++[i]);omega
  have no:dD s.sm now i=false->L100_0 m s fuel f x (IntKind.i64.wrap (i+1)) s2 = .ret (s2.add (((List.range 10).drop i.toNat).flatMap fun (g:Nat)=>if dD s.sm now g then dP s.sm (T.2.1.length - (now.length+1)) (now++[(g:Int)]) else []),()):=fun hok=>by
   rw [wr (by omega) (by omega),hdrop,hok,if_neg (by simp),List.nil_append];rw [hT];refine ih f (i+1) _ (by omega) (by omega) (by omega) e1 e2 ?_;rw [<- hT];omega
  rw [<- hT];rw [h1,h2];simp only;cases now with
  | nil =>
   have h5:decide (ae ([]:List Int) > (0:Int))=false:=decide_eq_false (by unfold ae;simp);rw [h5];have hokv:dD s.sm [] i=(br s.sm 0 i==eS s.sm):=by unfold dD;rw [if_pos rfl]
   simp only;cases hc:(br s.sm 0 i==eS s.sm) with
   | true =>
    simp only [h3,h4,fV,hpb,cond_true,Bool.and_true];exact yes (hokv.trans hc)
   | false=>exact no (hokv.trans hc)
  | cons y0 now =>
   obtain ⟨g1,g2⟩:=hpar (by simp);have h5:decide (ae (y0 :: now) > (0:Int))=true:=decide_eq_true (by unfold ae;simp);have h6:ax (ae (y0 :: now)) T.2.1.length=true:=fT.2 ⟨by unfold ae;omega,by unfold ae;omega⟩;have h7:ax (List.getD T.2.1 (ae (y0 :: now)).toNat ((0:Int),(([]:List Int),()))).1 (y0 :: now).length=true:=fT.2 ⟨g1,g2⟩;rw [h5,h6,h7];obtain ⟨par,hparv⟩:∃ p,p=List.getD (y0 :: now) (List.getD T.2.1 (ae (y0 :: now)).toNat ((0:Int),(([]:List Int),()))).1.toNat (0:Int):=⟨_,rfl⟩
   rw [<- hparv];have hd8:dep s.sm (ae (y0 :: now)) m:=hdp _ (by unfold ae;omega) (by unfold ae;omega);have h8:f101 s.sm m (bR s.sm,((ae (y0 :: now)),(i,(par,())))) = .ret (dc (br s.sm) (ae (y0 :: now)) i par):=by
    unfold f101;rw [if_pos ⟨rfl,hd8,h0,by dsimp only;omega⟩]
   have h9:ik s.sm m (bR s.sm,((ae (y0 :: now)),(par,()))) = .ret (cW (br s.sm) (ae (y0 :: now)) par):=by
    unfold ik;rw [if_pos ⟨rfl,hd8⟩]
   have hokv:dD s.sm (y0 :: now) i=(dc (br s.sm) (ae (y0 :: now)) i par==cW (br s.sm) (ae (y0 :: now)) par):=by
    unfold dD;rw [if_neg (by simp),<- hT,hparv];rfl
   simp only [cond_true,h8,h9];cases hc:(dc (br s.sm) (ae (y0 :: now)) i par==cW (br s.sm) (ae (y0 :: now)) par) with
   | true =>
    simp only [h3,h4,fV,hpb,cond_true,Bool.and_true];exact yes (hokv.trans hc)
   | false=>exact no (hokv.trans hc)
theorem KL {m:Nat} {s:SS} {now:List Int} (hp:PutPre (m+1) s now):v7 m s fuel (iU s now) = .ret (s.add (cI s.sm now),()):=by
 have hfb:=bK;have hlen:=hp.len;have hfew:=hp.few;unfold v7
 by_cases he:now.length=s.sm.2.1.1.2.1.length
 . have h1:(ae (iU s now).1==ae (iU s now).2.1.1.1.2.1)=true:=by
    show (((now.length:Int))==((s.sm.2.1.1.2.1.length:Nat):Int))=true;rw [he];exact beq_self_eq_true _
   rw [h1];have h2:cK (iU s now).2.2.1 (SS.po s)=true:=fV _;have h3:decide ((SS.outs s).length<999999999)=true:=decide_eq_true (Nat.lt_of_le_of_lt (Nat.le_add_right _ _) hfew);simp only [h2,h3,Bool.and_true,cond_true];unfold cI;rw [he,Nat.sub_self];rfl
 . have h1:(ae (iU s now).1==ae (iU s now).2.1.1.1.2.1)=false:=by
    show (((now.length:Int))==((s.sm.2.1.1.2.1.length:Nat):Int))=false;simp;omega
   rw [h1];have hk:s.sm.2.1.1.2.1.length - now.length=(s.sm.2.1.1.2.1.length - (now.length+1))+1:=by omega
   rw [hk,Nat.pow_succ] at hfew;have:=Sw hp (by omega) (x:=iU s now) rfl 10 fuel 0 s (by omega) (by omega) (by omega) rfl rfl (by omega);refine this.trans ?_;unfold cI;rw [hk];rfl
theorem UC:∀ m,sg m:=by
 intro m
 induction m with
 | zero=>intro s now M w v hp;have:=hp.dep;omega
 | succ m ih =>
  intro s now M w v hp hI hs hv hlt hh;have hs':=hs;obtain ⟨_,_,_,hpr,hpa,hpp⟩:=hs';have hvs:bN M w (.prod (.list (.int .i64)) (.prod (.ptr eN) (.prod .raw (.prod (.ptr (.int .i64)) (.prod (.ptr .raw) .unit))))) (#[v,s.pr,s.po,s.pa,s.pp]:Array Value).toList (iU s now) :=
   ⟨_,_,rfl,hv,_,_,rfl,hpr,_,_,rfl,qG rfl rfl,_,_,rfl,hpa,_,_,rfl,hpp,rfl⟩
  have hc:=yb (H:=HS) mixed (eK (l:=Bm) (all_cons D4 aO)) Tryz.func114 rfl (K' m ih fun s sp hs=>?_) hI hs hvs hlt hh ((NF m s fuel (iU s now)).trans (KL hp))
  . refine hc.mono ?_;rintro e w' ⟨u,rfl,h1,h2,M',h3,h4,h5,h6,_,_⟩;exact ⟨⟨u,rfl⟩,h1,h2,M',h3,h4,h5,h6⟩
  . simp only [oa,List.mem_cons,List.not_mem_nil,or_false] at hs;rcases hs with rfl|rfl|rfl|rfl
    . exact yi rfl (sY m _).1
    . exact yi rfl (sY m _).2.1
    . exact yi rfl (sY m _).2.2
    . exact sZ D4
end Go.V
end
