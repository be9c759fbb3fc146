/- Part. -/
import Derived.Test.YtmkbnifehdhbbabGreatDoorCT
import Derived.OrdersHeld
import Derived.Laws.MakeOwn
set_option linter.all false
noncomputable section
namespace Go.V
open Go.Proofs
open Go.RowKit (Below)
def gq (xs:List Int):List Value:=xs.map (Value.int .i64)
def iX (w:World) (v:Value) (xss:List (List Int)):Prop :=
 ∃ us:List Value,us.length=xss.length/\w.ownsRow 0 25 1 v us.length us/\(∀ (i:Nat) u xs,us[i]? = some u->xss[i]? = some xs->w.ownsRow 0 3 1 u xs.length (gq xs)) /\
  ∀ (i j:Nat) u u' g,us[i]? = some u->us[j]? = some u'->ag u=some g->ag u'=some g->i=j
def fY (v:Value) (n:Nat) (w:World) (b:Nat):Prop:=ag v=some b\/∃ R j u,ag v=some R/\j<n/\w.cell? ⟨R,j,none⟩=some u/\ag u=some b
theorem nj {w:World} {v:Value} {xss:List (List Int)} (h:iX w v xss) {R:Nat} (hR:ag v=some R) :
 ∃ cap cur,v = .slice (some ⟨R,0,none⟩) xss.length cap/\w.heap[R]? = some (.cells cur 25 (0,0))/\cur.size=cap/\xss.length<=cap/\cap<=maxLen /\
  (∀ j,j<xss.length->∃ u,cur[j]? = some u/\w.cell? ⟨R,j,none⟩=some u/\w.ownsRow 0 3 1 u (xss.getD j []).length (gq (xss.getD j []))) /\
  ∀ i j u u' g,i<xss.length->j<xss.length->cur[i]? = some u->cur[j]? = some u'->ag u=some g->ag u'=some g->i=j:=by
 obtain ⟨us,hl,hown,hel,hone⟩:=h;rcases hown.2 with ⟨rfl,_⟩|⟨g,cap,cur,rfl,_,hg,hle,hm,hcs,htk⟩
 . cases hR
 . have hgR:R=g:=by simp [ag] at hR;exact hR.symm
   subst hgR;rw [Nat.mul_one] at htk hcs;have hcu:∀ (j:Nat),j<us.length->cur[j]? = us[j]? := fun j hj=>by
    rw [<- htk,List.getElem?_take,if_pos hj];simp
   refine ⟨cap,cur,by rw [hl],hg,hcs,by omega,hm,fun j hj=>?_,fun i j u u' g hi hj h1 h2=>?_⟩
   . have hj':j<us.length:=by omega
     refine ⟨us[j],?_,?_,?_⟩
     . rw [hcu j hj'];exact List.getElem?_eq_getElem hj'
     . rw [cell_of_row w R j cur 25 (0,0) hg,hcu j hj'];exact List.getElem?_eq_getElem hj'
     . refine hel j us[j] (xss.getD j []) (List.getElem?_eq_getElem hj') ?_;rw [List.getD_eq_getElem?_getD,List.getElem?_eq_getElem hj];rfl
   . rw [hcu i (by omega)] at h1;rw [hcu j (by omega)] at h2;exact hone i j u u' g h1 h2
theorem GX {w w':World} {v:Value} {xss:List (List Int)} (h:iX w v xss) (hk:∀ b,fY v xss.length w b->w'.heap[b]? = w.heap[b]?):iX w' v xss:=by
 have h0:=h;obtain ⟨us,hl,hown,hel,hone⟩:=h;refine ⟨us,hl,gV hown fun g hg=>hk g (.inl hg),fun i u xs hu hx=>gV (hel i u xs hu hx) fun g hg=>?_,hone⟩;have hi:i<xss.length:=(List.getElem?_eq_some_iff.1 hx).1;rcases hown.2 with ⟨rfl,h0⟩|⟨R,cap,cur,rfl,_,hR,hle,hm,hcs,htk⟩
 . omega
 . refine hk g (.inr ⟨R,i,u,rfl,hi,?_,hg⟩);rw [cell_of_row w R i cur 25 (0,0) hR];have:(cur.toList.take (us.length * 1))[i]? = some u:=by rw [htk];exact hu
   rw [List.getElem?_take,if_pos (by omega)] at this
   simpa using this
theorem GU {w w':World} {v:Value} {n:Nat} (hk:∀ b,fY v n w b->w'.heap[b]? = w.heap[b]?):∀ b,fY v n w' b->fY v n w b:=by
 rintro b (h|⟨R,j,u,hR,hj,hc,hu⟩)
 . exact .inl h
 . refine .inr ⟨R,j,u,hR,hj,?_,hu⟩;rw [<- hc];exact (World.cell?_of_block (a:=⟨R,j,none⟩) (hk R (.inl hR))).symm
theorem GV {w:World} {v:Value} {xss:List (List Int)} (h:iX w v xss) {b:Nat} (hb:fY v xss.length w b):∃ cur E,w.heap[b]? = some (.cells cur E (0,0)):=by
 rcases hb with hb|⟨R,j,u,hR,hj,hc,hu⟩
 . obtain ⟨cap,cur,_,e,_⟩:=nj h hb;exact ⟨cur,25,e⟩
 . obtain ⟨cap,cur,_,e,_,_,_,hel,_⟩:=nj h hR;obtain ⟨u',h1,h2,h3⟩:=hel j hj;rw [h2] at hc;cases hc;obtain ⟨cur',e'⟩:=gC h3 hu;exact ⟨cur',3,e'⟩
abbrev SN:Type:=Option (Value×List (List Int))
def HN:Hole where
 σ:=SN
 hb s w b:=∃ v xss,s=some (v,xss)/\fY v xss.length w b
 I s _ w:=∀ v xss,s=some (v,xss)->iX w v xss
 keep s M w M' w' h _ hk v xss e:=GX (h v xss e) fun b hb=>hk b ⟨v,xss,e,hb⟩
 same s M w w' h hk b hb:=by
  obtain ⟨v,xss,e,hb⟩:=hb;exact ⟨v,xss,e,GU (fun b hb=>hk b ⟨v,xss,e,hb⟩) b hb⟩
 lt s M w b h hb:=by
  obtain ⟨v,xss,e,hb⟩:=hb;obtain ⟨cur,E,e'⟩:=GV (h v xss e) hb;exact (Array.getElem?_eq_some_iff.1 e').1
 nd s M w b c h hb e':=by
  obtain ⟨v,xss,e,hb⟩:=hb;obtain ⟨cur,E,e2⟩:=GV (h v xss e) hb;rw [e2] at e';cases e'
theorem r_ (w:World) (b:Nat):¬ HN.hb (none:SN) w b:=by rintro ⟨v,xss,e,_⟩;cases e
theorem r9 (M:ai) (w:World):HN.I (none:SN) M w:=fun v xss e=>by cases e
theorem Td {w:World} {v:Value} {xss:List (List Int)} (h:iX w v xss) {R:Nat} (hR:ag v=some R) {i:Nat} (hi:i<xss.length) (hlen:(xss.getD i []).length<1000000000) {cur:Array Value} {u:Value} (hg:w.heap[R]? = some (.cells cur 25 (0,0))) (hu:cur[i]? = some u)
 {b:Nat} {x:Int} (hx:w.cell? ⟨b,0,none⟩=some (.int .i64 x)) {ty:TypeId} :
 ∃ u' w2,(Builtin.append_ #[25,25] ty #[u,.slice (some ⟨b,0,none⟩) 1 1]).run Tryz.prog w = .ok u' w2/\w.grownBy w2 (ag u)/\w2.heap[R]? = some (.cells cur 25 (0,0))/\u'.oneCell'=true/\u'.cells = #[u'] /\
  iX (w2.setRow R (cur.setIfInBounds i u')) v (xss.set i (xss.getD i []++[x]))/\(∀ g,ag u'=some g->ag u=some g\/g=w.heap.size)/\(∀ g,ag u=some g->g≠R/\fY v xss.length w g):=by
 obtain ⟨cap,cur',hv,hg',hcs,hle,hmx,hel,hone⟩:=nj h hR;rw [hg] at hg';cases hg';obtain ⟨u0,e1,e2,hou⟩:=hel i hi;rw [hu] at e1;cases e1;have hRlt:R<w.heap.size:=(Array.getElem?_eq_some_iff.1 hg).1;have hune:∀ g,ag u=some g->g≠R:=fun g hgu e=>by
  obtain ⟨c2,e3⟩:=gC hou hgu;rw [e,hg] at e3;cases e3
 obtain ⟨u',w2,g1,g2,g3,g4⟩:=xK (P:=Tryz.prog) (w:=w) (t:=25) (ty:=ty) (e:=3) (i:=(Tryz.prog.info? 3).getD default) (z:=.int .i64 0) (by kernel_rfl) (by kernel_rfl) (by kernel_rfl) (by kernel_rfl) (of_decide_eq_true (by kernel_rfl)) (by kernel_rfl)
  (v:=u) (us:=gq (xss.getD i [])) 
   (by rw [show (gq (xss.getD i [])).length=(xss.getD i []).length by simp [gq]];exact hou) hx rfl (by simpa [gq] using hlen)
 have hR2:w2.heap[R]? = some (.cells cur 25 (0,0)):=(g3.block R hRlt fun e=>hune R e.symm rfl).trans hg;have huo:u'.oneCell'=true/\u'.cells = #[u']:=by
  rcases g2.2 with ⟨rfl,_⟩|⟨g,cap,cur,rfl,_⟩<;>exact ⟨rfl,rfl⟩
 have hblk:∀ g,ag u'=some g->ag u=some g\/g=w.heap.size:=fun g hg'=>by
  rcases g4 with e|e
  . exact .inl (e ▸ hg')
  . rw [e] at hg';cases hg';exact .inr rfl
 have hune':∀ g,ag u'=some g->g≠R:=fun g hg' e=>by
  rcases hblk g hg' with h|h
  . exact hune g h e
  . omega
 refine ⟨u',w2,g1,g3,hR2,huo.1,huo.2,?_,hblk,fun g hg'=>⟨hune g hg',.inr ⟨R,i,u,hR,hi,e2,hg'⟩⟩⟩;have hicur:i<cur.size:=by omega
 have hR3:(w2.setRow R (cur.setIfInBounds i u')).heap[R]? = some (.cells (cur.setIfInBounds i u') 25 (0,0)):=lU hR2;have hoth3:∀ k,k≠R->(w2.setRow R (cur.setIfInBounds i u')).heap[k]? = w2.heap[k]? := fun k hk=>setRow_other hk
 generalize hw3:w2.setRow R (cur.setIfInBounds i u')=w3 at hR3 hoth3;have hcur':∀ j,(cur.setIfInBounds i u')[j]? = if i=j then (if j<cur.size then some u' else none) else cur[j]? := fun j=>by
  rw [Array.getElem?_setIfInBounds]
  by_cases e:i=j
  . subst e;simp [hicur]
  . simp [e]
 refine ⟨(cur.setIfInBounds i u').toList.take xss.length,?_,?_,?_,?_⟩
 . rw [List.length_take,List.length_set];simp;omega
 . have hl:((cur.setIfInBounds i u').toList.take xss.length).length=xss.length:=by rw [List.length_take];simp;omega
   refine ⟨by rw [Nat.mul_one],.inr ⟨R,cap,cur.setIfInBounds i u',?_,Nat.zero_le _,hR3,?_,hmx,?_,?_⟩⟩
   . rw [hl];exact hv
   . rw [hl];exact hle
   . simp [hcs]
   . rw [hl,Nat.mul_one]
 . intro j uj xs hj hx';rw [List.getElem?_take] at hj;split at hj;rotate_left
   . cases hj
   rename_i hjl;rw [Array.getElem?_toList,hcur'] at hj;rw [List.getElem?_set] at hx'
   by_cases e:i=j
   . subst e;rw [if_pos rfl,if_pos hicur] at hj;rw [if_pos rfl,if_pos hi] at hx';cases hj;cases hx';refine gV (w:=w2) ?_ fun g hg'=>hoth3 g (hune' g hg')
     have:gq (xss.getD i []++[x])=gq (xss.getD i [])++[.int .i64 x]:=by simp [gq]
     rw [this];have e2:(xss.getD i []++[x]).length=(gq (xss.getD i [])++[Value.int .i64 x]).length:=by simp [gq]
     rw [e2];exact g2
   . rw [if_neg e] at hj;rw [if_neg e] at hx';obtain ⟨u1,q1,q2,q3⟩:=hel j hjl;rw [hj] at q1;cases q1;have hxs:xss.getD j []=xs:=by rw [List.getD_eq_getElem?_getD,hx'];rfl
     rw [hxs] at q3;refine gV q3 fun g hg'=>?_
     have hgR:g≠R:=fun e'=>by
      obtain ⟨c2,e3⟩:=gC q3 hg';rw [e',hg] at e3;cases e3
     obtain ⟨c2,e3⟩:=gC q3 hg';rw [hoth3 g hgR,g3.block g (Array.getElem?_eq_some_iff.1 e3).1 fun e'=>e (hone i j u uj g hi hjl hu hj e'.symm hg')]
 . intro j k uj uk g hj hk hgj hgk;rw [List.getElem?_take] at hj hk;split at hj;rotate_left
   . cases hj
   rename_i hjl;split at hk;rotate_left
   . cases hk
   rename_i hkl;rw [Array.getElem?_toList,hcur'] at hj hk;have old:∀ k uk,k<xss.length->cur[k]? = some uk->ag uk=some g->g<w.heap.size:=fun k uk hk e hgk=>by
    obtain ⟨u1,q1,q2,q3⟩:=hel k hk;rw [e] at q1;cases q1;obtain ⟨c2,e3⟩:=gC q3 hgk;exact (Array.getElem?_eq_some_iff.1 e3).1
   by_cases e:i=j
   . subst e
     by_cases e':i=k
     . exact e'
     . rw [if_pos rfl,if_pos hicur] at hj;rw [if_neg e'] at hk;cases hj;rcases hblk g hgj with h'|h'
       . exact hone i k u uk g hi hkl hu hk h' hgk
       . have:=old k uk hkl hk hgk;omega
   . rw [if_neg e] at hj
     by_cases e':i=k
     . subst e';rw [if_pos rfl,if_pos hicur] at hk;cases hk;rcases hblk g hgk with h'|h'
       . exact hone j i uj u g hjl hi hj hu hgj h'
       . have:=old j uj hjl hj hgj;omega
     . rw [if_neg e'] at hk;exact hone j k uj uk g hjl hkl hj hk hgj hgk
open Go.RowKit (Below)
section
variable {P : Program} {ops : Array Oper} {Q : Exit → Act → World → Prop} {S : World → Prop} {t : Nat}
def dI (P:Program) (ops:Array Oper) (Q:Exit->Act->World->Prop) (S:World->Prop) (t:Nat):Nat->Array Bool->Act->World->Prop
 | 0,listed,a,w=>Region.ready .any ops listed=[]/\Q .normal a w
 | fuel+1,listed,a,w =>
  (Region.ready .any ops listed=[]->Q .normal a w) /\
  ∀ i∈Region.ready .any ops listed,wpOp P ops Q i (fun a' w'=>(i≠t->S w')/\dI P ops Q S t fuel (listed.setIfInBounds i true) a' w') a w
theorem J0:∀ (fuel:Nat) (listed:Array Bool) (a:Act) (w:World),dI P ops Q S t fuel listed a w->wpAny P .any ops Q fuel listed a w
 | 0,_,_,_,h=>h
 | fuel+1,_,_,_,h=>⟨h.1,fun i hi=>wpOp_mono (fun a' w' h'=>J0 fuel _ a' w' h'.2) (h.2 i hi)⟩
theorem Wx {i:Nat} {oi ot:Oper} {v:Value} (hi:ops[i]? = some oi) (hot:ops[t]? = some ot) (hti:∃ e∈ot.after,Region.binds .any e=true/\e.on=i) (hsel:∀ (j:Nat) (o:Oper) cs b,ops[j]? = some o->o.op ≠ .select cs b)
 (hQ:∀ c a w,Q (.panic c) (a.put oi.dst v) w->Q (.panic c) a w) :
 ∀ (fuel:Nat) (listed:Array Bool) (a:Act) (w:World),
  (∀ j oj,ops[j]? = some oj->j≠i->listed.getD j true=false->(∀ e∈oj.after,Region.binds .any e=true->e.on≠i)->oi.apart ops oj=true) ->
  i∈Region.ready .any ops listed->YieldsIf P ops S oi v a->S w ->
  dI P ops Q S t fuel (listed.setIfInBounds i true) (a.put oi.dst v) w->dI P ops Q S t (fuel+1) listed a w:=by
 intro fuel
 induction fuel with
 | zero =>
  intro listed a w _ hr hy hS H;refine ⟨fun h=>(by rw [h] at hr;cases hr),fun j hj=>?_⟩
  by_cases hji:j=i
  . subst hji;exact hy.wpOp hi hS ⟨fun _=>hS,H⟩
  . have:=ready_mono hj hji;rw [H.1] at this;cases this
 | succ fuel ih =>
  intro listed a w hfree hr hy hS H;refine ⟨fun h=>(by rw [h] at hr;cases hr),fun j hj=>?_⟩
  by_cases hji:j=i
  . subst hji;exact hy.wpOp hi hS ⟨fun _=>hS,H⟩
  . have h1:=H.2 j (ready_mono hj hji);obtain ⟨hjun,oj,hoj,hall⟩:=mem_ready.1 hj;have hnot:∀ e∈oj.after,Region.binds .any e=true->e.on≠i:=fun e he hb heq=>by
     have h1:=hall e he hb;have h0:=(mem_ready.1 hr).1;rw [heq] at h1;rcases Nat.lt_or_ge i listed.size with h'|h'
     . simp [h'] at h0 h1;rw [h0] at h1;cases h1
     . simp [Array.getElem?_eq_none h'] at h1
    have hjt:j≠t:=fun e=>by
     subst e;rw [hot] at hoj;cases hoj;obtain ⟨e,he,hb,hon⟩:=hti;exact hnot e he hb hon
    have h2:=wpOp_putIf hoj (hfree j oj hoj hji hjun hnot) (fun cs b=>hsel i oi cs b hi) (fun cs b=>hsel j oj cs b hoj) hQ hy h1;have hfree':∀ k ok,ops[k]? = some ok->k≠i->(listed.setIfInBounds j true).getD k true=false ->
     (∀ e∈ok.after,Region.binds .any e=true->e.on≠i)->oi.apart ops ok=true:=fun k ok hk hki hun hno=>by
     refine hfree k ok hk hki ?_ hno
     by_cases hjk:j=k
     . subst hjk;exact hjun
     . rw [getD_set_ne true hjk] at hun;exact hun
    refine wpOp_mono (fun a' w' h3=>⟨h3.2.1,ih (listed.setIfInBounds j true) a' w' hfree' (ready_mono hr (Ne.symm hji)) h3.1 (h3.2.1 hjt) ?_⟩) h2;rw [Array.setIfInBounds_comm _ _ hji];exact h3.2.2
def Cq (ops:Array Oper) (t i:Nat):Bool:=match ops[t]? with
 | some o=>o.after.any fun e=>Region.binds .any e && e.on==i
 | none=>false
theorem Wq {i:Nat} (h:Cq ops t i=true):∃ ot,ops[t]? = some ot/\∃ e∈ot.after,Region.binds .any e=true/\e.on=i:=by
 unfold Cq at h;split at h
 . rename_i o ho;obtain ⟨k,hk,he⟩:=Array.any_eq_true.1 h;simp only [Bool.and_eq_true,beq_iff_eq] at he;exact ⟨o,ho,o.after[k],Array.getElem_mem hk,he.1,he.2⟩
 . cases h
theorem dy {i:Nat} {d:Nat} {op:Op} {v:Value} {fuel:Nat} {L:Array Bool} {a:Act} {w:World} (hx:(ops.toList.map a_)[i]? = some (some d,op,none)) (hs:Region.noSelect ops=true) (hf:Region.free .any ops L i=true) (hr:(Region.ready .any ops L).contains i=true) (ht:Cq ops t i=true)
 (hQ:∀ c a w,¬ Q (.panic c) a w) (hy:∀ o:Oper,o.op=op->∀ w,S w->(execOp a.eval o).run P w = .ok (.value v) w) (hS:S w)
 (h:dI P ops Q S t fuel (L.setIfInBounds i true) (a.put (some d) v) w):dI P ops Q S t (fuel+1) L a w:=by
 obtain ⟨o,hi,hd,ho,hg⟩:=aB rfl hx;simp only at hd ho hg;obtain ⟨ot,hot,hti⟩:=Wq ht;refine Wx hi hot hti (Region.noSelect_spec hs) (fun c a w h=>absurd h (hQ c _ w)) fuel L a w (Region.free_spec hi hf) (by simpa using hr) (.inl ⟨aC hg,fun w hS=>hy o ho w hS⟩) hS ?_;rw [hd];exact h
theorem iu {i:Nat} {dst:Option Nat} {op:Op} {fuel:Nat} {L:Array Bool} {a:Act} {w w':World} (hx:(ops.toList.map a_)[i]? = some (dst,op,none)) (hr:Region.ready .any ops L=[i]) {r:Next} {v:Value}
 (hrun:∀ o:Oper,o.op=op->(execOp a.eval o).run P w = .ok r w') (hrv:r = .value v\/(r = .skip/\v=undef)) (hS:i≠t->S w') (h:dI P ops Q S t fuel (L.setIfInBounds i true) (a.put dst v) w'):dI P ops Q S t (fuel+1) L a w:=by
 obtain ⟨o,hi,hd,ho,hg⟩:=aB rfl hx;simp only at hd ho hg;refine ⟨fun h0=>(by rw [h0] at hr;cases hr),fun j hj=>?_⟩;rw [hr,List.mem_singleton] at hj;subst hj;unfold wpOp;simp only [hi,aC hg,if_true];left;have:=hrun o ho;unfold Oper.wp;rcases hrv with rfl|⟨rfl,rfl⟩
 . rw [this];simp only [Oper.upon];rw [hd];exact ⟨hS,h⟩
 . rw [this];simp only [Oper.upon];rw [hd];exact ⟨hS,h⟩
theorem FP {i:Nat} {dst:Option Nat} {o:Oper} {fuel:Nat} {L:Array Bool} {a:Act} {w w':World} (hi:ops[i]? = some o) (hd:o.dst=dst) (hg:o.guard=none) (hr:Region.ready .any ops L=[i]) {r:Next} {v:Value}
 (hrun:(execOp a.eval o).run P w = .ok r w') (hrv:r = .value v\/(r = .skip/\v=undef)) (hS:i≠t->S w') (h:dI P ops Q S t fuel (L.setIfInBounds i true) (a.put dst v) w'):dI P ops Q S t (fuel+1) L a w:=by
 refine ⟨fun h0=>(by rw [h0] at hr;cases hr),fun j hj=>?_⟩;rw [hr,List.mem_singleton] at hj;subst hj;unfold wpOp;simp only [hi,aC hg,if_true];left;unfold Oper.wp;rcases hrv with rfl|⟨rfl,rfl⟩
 . rw [hrun];simp only [Oper.upon];rw [hd];exact ⟨hS,h⟩
 . rw [hrun];simp only [Oper.upon];rw [hd];exact ⟨hS,h⟩
theorem FO {i:Nat} {dst:Option Nat} {op:Op} {fuel:Nat} {L:Array Bool} {a:Act} {w w':World} (hx:(ops.toList.map a_)[i]? = some (dst,op,none)) {r:Next} {v:Value}
 (hrun:∀ o:Oper,o.op=op->(execOp a.eval o).run P w = .ok r w') (hrv:r = .value v\/(r = .skip/\v=undef)) (hS:i≠t->S w') (h:dI P ops Q S t fuel (L.setIfInBounds i true) (a.put dst v) w') :
 wpOp P ops Q i (fun a' w'=>(i≠t->S w')/\dI P ops Q S t fuel (L.setIfInBounds i true) a' w') a w:=by
 obtain ⟨o,hi,hd,ho,hg⟩:=aB rfl hx;simp only at hd ho hg;unfold wpOp;simp only [hi,aC hg,if_true];left;have:=hrun o ho;unfold Oper.wp;rcases hrv with rfl|⟨rfl,rfl⟩
 . rw [this];simp only [Oper.upon];rw [hd];exact ⟨hS,h⟩
 . rw [this];simp only [Oper.upon];rw [hd];exact ⟨hS,h⟩
theorem tK {L:Array Bool} {a:Act} {w:World} (hr:Region.ready .any ops L=[]) (h:Q .normal a w):∀ fuel,dI P ops Q S t fuel L a w
 | 0=>⟨hr,h⟩
 | _+1=>⟨fun _=>h,by rw [hr];simp⟩
def jK (Q:Exit->Act->World->Prop):Exit->Act->World->Prop
 | .panic _,_,_=>False
 | e,a,w=>Q e a w
theorem yQ {id n:Nat} {a:Act} {w:World} (hm:P.follows .mixedOrders=true) (S:World->Prop) (t:Nat)
 (h:dI P ops (jK Q) S t ops.size (Array.replicate ops.size false) a w.drew):(Code.region id ops true).wpIn (aA none) n P Q a w:=by
 refine wpIn_wide.2 (Code.wp_mono (fun e a w h=>?_) (wp_region_any hm (J0 _ _ _ _ h)));cases e<;>first|exact h|exact (h:False).elim
end
open Go.RowKit (Below)
theorem Good.put_boxX {M0:Base} {F:Nat->Prop} {M:ai} {st:St} {a:Act} {w:World} (h:Good M0 F M st a w) {d X:Nat} (hd:d<st.length) (hnb:au (get st d)=false) {cs:List C} {cells:Array Value} {E:TypeId} (hX:w.heap[X]? = some (.cells cells E (0,0))) (hMX:∀ o,M X o)
 (hXF:¬ F X) (hXo:∀ i k,¬ ap st a w i k X) (hno:∀ c∈cs,b_ c=false) (hsz:cells.size=cs.length) (hok:∀ (k:Nat) (c:C) (u:Value),cs[k]? = some c->cells[k]? = some u->fC M w u c) :
 Good M0 F M (st.set d (.box cs)) (a.put (some d) (.pointer (some ⟨X,0,none⟩))) w:=by
 have hda:d<a.tmps.size:=by rw [h.size];exact hd
 have hnb':∀ cs,get st d ≠ .box cs:=fun cs e=>by rw [e] at hnb;cases hnb
 have hn:∀ (k:Nat) c,cs[k]? = some c->b_ c=false:=fun k c hk=>hno c (List.mem_of_getElem? hk)
 have key:∀ k b,ap (st.set d (.box cs)) (a.put (some d) (.pointer (some ⟨X,0,none⟩))) w d k b->k=none/\b=X:=by
  intro k b hk;cases k with
  | none =>
   have:=hk.2;rw [mc a _ _ _ hda,if_pos rfl] at this;simp [ag] at this;exact ⟨rfl,this.symm⟩
  | some k =>
   obtain ⟨cs',c0,c,v,e1,e2,e0,e3,e4,e5⟩:=hk;rw [bu st _ _ _ hd,if_pos rfl] at e1;cases e1;rw [hn k c0 e2] at e0;cases e0
 refine h.put hd hnb' (fun k t' xs'=>⟨fun e=>?_,fun e=>?_⟩) ⟨X,E,cells,rfl,hX,hsz,hMX,hok⟩ (fun k b hk=>?_) (fun k l b e1 e2=>?_)
 . have:=hn k _ e;cases this
 . have:=hn k _ e;cases this
 . obtain ⟨_,rfl⟩:=key k b hk;exact ⟨hXF,fun j l _ ho=>hXo j l ho⟩
 . exact (key k b e1).1.trans (key l b e2).1.symm
theorem GZ {F:Nat->Prop} {M0:Base} {M:ai} {st:St} {a:Act} {w:World} {v:Value} {xss:List (List Int)} (h:bv HN F M0 (some (v,xss):SN) M st a w):∃ M',bv HN F M0 (none:SN) M' st a w/\aw M' w be v xss/\aL M w M' w:=by
 obtain ⟨hI,hg,hh⟩:=h;have hn:=hI v xss rfl;obtain ⟨M',hM'⟩:∃ M':ai,M'=fun b o=>M b o/\¬ fY v xss.length w b:=⟨_,rfl⟩
 have hhb:∀ b,fY v xss.length w b->HN.hb (some (v,xss):SN) w b:=fun b hb=>⟨v,xss,rfl,hb⟩
 have hst:aL M w M' w:=fun b o u hc hm=>⟨hc,fun h=>by rw [hM'] at h;exact hm h.1⟩
 refine ⟨M',⟨r9 _ _,?_,fun b hb=>absurd hb (r_ w b)⟩,?_,hst⟩
 . refine hg.world hst (Nat.le_refl _) (fun b o hm=>?_) (fun b o hm=>?_) (fun b o hF hm=>?_) (bF.refl _) fun i k b ho=>⟨rfl,fun o hm=>?_⟩
   . rw [hM'];exact ⟨hg.up b o hm,fun hb=>(hh b (hhb b hb)).1 (hg.base b o hm)⟩
   . rw [hM'] at hm;exact hg.lt b o hm.1
   . rw [hM'] at hm;exact hg.down b o hF hm.1
   . rw [hM'];exact ⟨hm,fun hb=>(hh b (hhb b hb)).2.2 i k ho⟩
 . cases hR:ag v with
   | none =>
    obtain ⟨us,hl,hown,_⟩:=hn;rcases hown.2 with ⟨rfl,h0⟩|⟨g,cap,cur,rfl,_⟩
    . have:xss=[]:=List.eq_nil_of_length_eq_zero (by omega);rw [this];exact ⟨_,rfl,af.list_nil _⟩
    . cases hR
   | some R =>
    obtain ⟨cap,cur,hv,hg',hcs,hle,hmx,hel,_⟩:=nj hn hR;refine ⟨[v],rfl,some ⟨R,0,none⟩,cap,by rw [hv];rfl,hle,fun i hi=>?_⟩;have hi':i<xss.length:=hi;obtain ⟨u,e1,e2,hou⟩:=hel i hi';have hxi:xss.getD i []=xss[i]:=by rw [List.getD_eq_getElem?_getD,List.getElem?_eq_getElem hi'];rfl
    rw [hxi] at hou;refine ⟨R,0,[u],rfl,rfl,fun j hj=>?_,?_⟩
    . have:j=0:=by simpa using hj
      subst this;simp only [Ty.size,Nat.mul_one,Nat.zero_add,Nat.add_zero];exact ⟨e2,fun h=>by rw [hM'] at h;exact h.2 (.inl hR)⟩
    . rcases hou.2 with ⟨rfl,h0⟩|⟨g,cap',cur',rfl,_,hgg,hle',_,hcs',htk⟩
      . have:xss[i]=[]:=List.eq_nil_of_length_eq_zero h0;have hx0:af M' w (.list (.int .i64)) [.slice none 0 0] (xss[i]'hi':List Int):=by rw [this];exact af.list_nil _
        exact hx0
      . refine ⟨some ⟨g,0,none⟩,cap',rfl,hle',fun j hj=>⟨g,0,[.int .i64 (xss[i][j])],rfl,rfl,fun k hk=>?_,rfl⟩⟩;have:k=0:=by simpa using hk
        subst this;simp only [Ty.size,Nat.mul_one,Nat.zero_add,Nat.add_zero];refine ⟨?_,fun h=>by rw [hM'] at h;exact h.2 (.inr ⟨R,i,_,hR,hi',e2,rfl⟩)⟩;rw [cell_of_row w g j cur' 3 (0,0) hgg];have hj':j<xss[i].length:=hj;have h2:(cur'.toList.take (xss[i].length * 1))[j]? = some (.int .i64 (xss[i][j])):=by
         rw [htk];unfold gq;rw [List.getElem?_map,List.getElem?_eq_getElem hj'];rfl
        rw [List.getElem?_take,if_pos (by omega),Array.getElem?_toList] at h2;exact h2
theorem Tg {F:Nat->Prop} {M0:Base} {M:ai} {st:St} {a:Act} {w:World} {v:Value} {xss:List (List Int)} (h:bv HN F M0 (some (v,xss):SN) M st a w):∃ M',bv HN F M0 (none:SN) M' st a w/\aw M' w be v xss:=by
 obtain ⟨M',h1,h2,_⟩:=GZ h;exact ⟨M',h1,h2⟩
theorem GW {F:Nat->Prop} {M0:Base} {M:ai} {st:St} {a:Act} {w w1:World} {v:Value} {xss:List (List Int)} (hG:bv HN F M0 (some (v,xss):SN) M st a w) (h1:Below w.heap.size w w1) {R:Nat} (hR:ag v=some R) {i:Nat} (hi:i<xss.length) (hlen:(xss.getD i []).length<1000000000)
 {cur:Array Value} {u:Value} (hg:w.heap[R]? = some (.cells cur 25 (0,0))) (hu:cur[i]? = some u) {b:Nat} {x:Int} (hx:w1.cell? ⟨b,0,none⟩=some (.int .i64 x)) (ty:TypeId) :
 ∃ u' w2,(Builtin.append_ #[25,25] ty #[u,.slice (some ⟨b,0,none⟩) 1 1]).run Tryz.prog w1 = .ok u' w2/\w2.heap[R]? = some (.cells cur 25 (0,0))/\u'.oneCell'=true/\u'.cells = #[u']/\(∀ k,k<w.heap.size->¬ HN.hb (some (v,xss):SN) w k->w2.heap[k]? = w.heap[k]?) /\
  Fr F w (w2.setRow R (cur.setIfInBounds i u'))/\∃ M',bv HN F M0 (some (v,xss.set i (xss.getD i []++[x])):SN) M' st a (w2.setRow R (cur.setIfInBounds i u')):=by
 have hn:=hG.1 v xss rfl;have hlt:∀ b,fY v xss.length w b->b<w.heap.size:=fun b hb=>HN.lt (some (v,xss)) M w b hG.1 ⟨v,xss,rfl,hb⟩
 have hn1:iX w1 v xss:=GX hn fun b hb=>h1.block b (hlt b hb)
 have hB1:∀ b,fY v xss.length w1 b->fY v xss.length w b:=GU fun b hb=>h1.block b (hlt b hb)
 have hRlt:R<w.heap.size:=(Array.getElem?_eq_some_iff.1 hg).1;have hg1:w1.heap[R]? = some (.cells cur 25 (0,0)):=(h1.block R hRlt).trans hg;obtain ⟨u',w2,e1,e2,e3,e4,e5,e6,e7,e8⟩:=Td hn1 hR hi hlen hg1 hu hx (ty:=ty);have hout:∀ k,k<w.heap.size->¬ HN.hb (some (v,xss):SN) w k->w2.heap[k]? = w.heap[k]? := fun k hk hB=>by
  rw [e2.block k (by have:=h1.size;omega) fun e=>hB ⟨v,xss,rfl,hB1 k (e8 k e.symm).2⟩];exact h1.block k hk
 refine ⟨u',w2,e1,e3,e4,e5,hout,?_⟩;have hRh:HN.hb (some (v,xss):SN) w R:=⟨v,xss,rfl,.inl hR⟩
 generalize hw3:w2.setRow R (cur.setIfInBounds i u')=w3 at e6 ⊢;have hsz3:w3.heap.size=w2.heap.size:=by rw [<- hw3];exact setRow_size
 have hoth3:∀ k,k≠R->w3.heap[k]? = w2.heap[k]? := fun k hk=>by rw [<- hw3];exact setRow_other hk
 have hfr:Fr (fun k=>k<w.heap.size/\¬ HN.hb (some (v,xss):SN) w k) w w3:=by
  refine ⟨?_,?_,?_,?_,fun k hk=>?_⟩
  . rw [<- hw3];show w2.os=w.os;rw [e2.os,h1.os]
  . rw [<- hw3];show w2.tape=w.tape;rw [e2.tape,h1.tape]
  . rw [<- hw3];show w2.output=w.output;rw [e2.output,h1.output]
  . rw [hsz3];have:=e2.size;have:=h1.size;omega
  . rw [hoth3 k fun e=>hk.2 (e ▸ hRh)];exact hout k hk.1 hk.2
 obtain ⟨M',hM'⟩:∃ M':ai,M'=fun b o=>M b o\/(w.heap.size<=b/\b<w3.heap.size):=⟨_,rfl⟩
 have hI':HN.I (some (v,xss.set i (xss.getD i []++[x])):SN) M' w3:=fun v' xss' e=>by cases e;exact e6
 have hbs:∀ b,HN.hb (some (v,xss.set i (xss.getD i []++[x])):SN) w3 b->HN.hb (some (v,xss):SN) w b\/w.heap.size<=b:=by
  rintro b ⟨v',xss',e,hb⟩;cases e;rcases hb with hb|⟨R',j,uj,hR',hj,hc,huj⟩
  . rw [hR] at hb;cases hb;exact .inl hRh
  . rw [hR] at hR';cases hR';rw [List.length_set] at hj;have hcell:w3.heap[R]? = some (.cells (cur.setIfInBounds i u') 25 (0,0)):=by rw [<- hw3];exact lU e3
    rw [cell_of_row w3 R j _ 25 (0,0) hcell,Array.getElem?_setIfInBounds] at hc
    by_cases e:i=j
    . subst e;rw [if_pos rfl] at hc;split at hc
      . cases hc;rcases e7 b huj with h|h
        . exact .inl ⟨v,xss,rfl,hB1 b (e8 b h).2⟩
        . exact .inr (by have:=h1.size;omega)
      . cases hc
    . rw [if_neg e] at hc;exact .inl ⟨v,xss,rfl,.inr ⟨R,j,uj,hR,hj,(cell_of_row w R j cur 25 (0,0) hg).trans hc,huj⟩⟩
 obtain ⟨f1,f2⟩:=hG.grow (s':=(some (v,xss.set i (xss.getD i []++[x])):SN)) (M':=M') hfr hI' (fun b o h=>by rw [hM'];exact .inr (.inl h)) (fun b o h=>by rw [hM'] at h;exact h) hbs fun b hb o=>by
  rw [hM'];rcases hbs b hb with h|h
  . exact .inl ((hG.2.2 b h).2.1 o)
  . exact .inr ⟨h,HN.lt _ _ _ b hI' hb⟩
 exact ⟨f1,M',f2⟩
section
variable {a : Act} {w : World} {o : Oper}
theorem tk {T E:TypeId} {e:Ty} (hu:Tryz.prog.underlying T=some (.slice E)) (hE:bj Tryz.prog 9 E=some e) (hes:e.size=1) {p q:Nat} (ho:o.op = .indexAddr T (.tmp p) (.tmp q)) {R off n cap:Nat} {i:Int} (h0:tm a p = .slice (some ⟨R,off,none⟩) n cap) (h1:tm a q = .int .i64 i) (hi0:0<=i) (hi:i<n) :
 (execOp a.eval o).run Tryz.prog w = .ok (.value (.pointer (some ⟨R,off+i.toNat,none⟩))) w:=by
 have e0:a.eval (.tmp p) = .slice (some ⟨R,off,none⟩) n cap:=h0;have e1:a.eval (.tmp q) = .int .i64 i:=h1;simp [execOp,ho,e0,e1,Instr.indexAt,asIntOf,run_underlying hu,fq hE,gh,hi0,hi,hes]
theorem jd {T p:Nat} {t:Ty} (hty:bj Tryz.prog 9 T=some t) (hag:t.agg=false) (hts:t.size=1) (ho:o.op = .load T (.tmp p)) {b j:Nat} {v:Value} {cur:Array Value} {E:Nat} (ht:tm a p = .pointer (some ⟨b,j,none⟩)) (hh:w.heap[b]? = some (.cells cur E (0,0))) (hv:cur[j]? = some v) :
 (execOp a.eval o).run Tryz.prog w = .ok (.value v) w:=by
 have hlt:=(Array.getElem?_eq_some_iff.1 hv).1;have hd:cur.toList.drop j=[v]++cur.toList.drop (j+1):=by
  have hl:j<cur.toList.length:=by simpa using hlt
  have hv2:cur.toList[j]=v:=(Array.getElem?_eq_some_iff.1 hv).2;rw [List.drop_eq_getElem_cons hl,hv2];rfl
 have:=gr (P:=Tryz.prog) (n:=9) (T:=T) (t:=t) (w:=w) (b:=b) (off:=j) (us':=cur.toList.drop (j+1)) (c1:=[v]) hty hh hd hts.symm;have e1:a.eval (.tmp p) = .pointer (some ⟨b,j,none⟩):=ht;have e2:aP t [v]=v:=by unfold aP;rw [hag];rfl
 rw [e2] at this;simp [execOp,ho,e1,Instr.loadAt,Instr.sureAddr,this]
theorem tn {T p q:Nat} {t:Ty} (hty:bj Tryz.prog 9 T=some t) (hts:t.size=1) (ho:o.op = .store T (.tmp p) (.tmp q)) {b j:Nat} {u:Value} {cur:Array Value} {E:Nat} (ht:tm a p = .pointer (some ⟨b,j,none⟩)) (hq:tm a q=u) (hu:u.oneCell'=true) (huc:u.cells = #[u]) (hh:w.heap[b]? = some (.cells cur E (0,0))) (hj:j<cur.size) :
 (execOp a.eval o).run Tryz.prog w = .ok .skip (w.setRow b (cur.setIfInBounds j u)):=by
 have e1:a.eval (.tmp p) = .pointer (some ⟨b,j,none⟩):=ht;have e3:a.eval (.tmp q)=u:=hq;have hrun:=ki (P:=Tryz.prog) (n:=9) (T:=T) (t:=t) hty (o:=j) (v:=u) (by rw [huc,hts];rfl) hh (by rw [hts];omega) (by rw [huc];intro x hx;simp at hx;rw [hx];exact hu);have hrow:(cur.toList.take j ++ #[u].toList++cur.toList.drop (j+1)).toArray=cur.setIfInBounds j u:=by
  apply Array.ext';simp only [Array.toList_setIfInBounds];rw [List.set_eq_take_append_cons_drop,if_pos (by simpa using hj)];simp
 rw [huc,hts,hrow] at hrun;simp only [execOp,ho,e1,e3,Instr.storeAt,Instr.sureAddr,Sem.run_bind,Sem.run_pure,Result.andThen_ok];rw [hrun];rfl
theorem EG {q:Nat} (ho:o.op = .buildSlice 25 1 #[(0,.tmp q)]) {x:Int} (h1:tm a q = .int .i64 x):(execOp a.eval o).run Tryz.prog w = .ok (.value (.slice (some ⟨w.heap.size,0,none⟩) 1 1)) (w.alloc (.cells #[.int .i64 x] 3)):=by
 have e1:a.eval (.tmp q) = .int .i64 x:=h1;simp only [execOp,ho,List.map_toArray,List.map_cons,List.map_nil,e1];simp [go_sem]
theorem EF {p q:Nat} {v v':Value} {w':World} {b:Nat} (ho:o.op = .call { callee:=.builtin .append,args := #[.tmp p,.tmp q],argTypes := #[25,25] }) (h0:tm a p=v) (h1:tm a q = .slice (some ⟨b,0,none⟩) 1 1)
 (hr:(Builtin.append_ #[25,25] o.type #[v,.slice (some ⟨b,0,none⟩) 1 1]).run Tryz.prog w = .ok v' w'):(execOp a.eval o).run Tryz.prog w = .ok (.value v') w':=by
 have e0:a.eval (.tmp p)=v:=h0;have e1:a.eval (.tmp q) = .slice (some ⟨b,0,none⟩) 1 1:=h1;simp [execOp,ho,resolve,e0,e1,invoke,builtin,hr]
theorem Pr {T E:TypeId} (hu:Tryz.prog.underlying T=some (.slice E)) {p:Nat} (ho:o.op = .call { callee:=.builtin .len,args := #[.tmp p],argTypes := #[T] }) {ad:Option Addr} {n c:Nat} (h0:tm a p = .slice ad n c):(execOp a.eval o).run Tryz.prog w = .ok (.value (.int .i64 n)) w:=by
 have e0:a.eval (.tmp p) = .slice ad n c:=h0;have hr:=rf (P:=Tryz.prog) (T:=T) (v:=.slice ad n c) (n:=n) (.inr ⟨⟨E,hu⟩,ad,c,rfl⟩) o.type [] w;simp [execOp,ho,resolve,invoke,builtin,e0];rw [hr];rfl
end
end Go.V
end
