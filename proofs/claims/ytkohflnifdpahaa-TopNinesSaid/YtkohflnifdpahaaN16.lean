/- A part of the proof of TopNinesSaid: no condition beyond what each theorem says. -/
import Derived.Test.YtkohflnifdpahaaN15
import Derived.Maps.Keyed
import Derived.DeepKeys4
import Derived.Test.YtkohflnifdpahaaN13
set_option linter.all false
namespace Go.V
open Go.Proofs
open Go.RowKit (Below)
theorem laidOut:laidOutB Try.prog=true:=by kernel_rfl
def pairV (a b:Int):Value:=.agg #[.int .i64 a,.int .i64 b]
def rng (n:Int):Bool:=decide (-9223372036854775808<=n) && decide (n<=9223372036854775807)
theorem rng_wf {n:Int} (h:rng n=true):(Lit.int .i64 n).wf=true:=by
  simp only [rng,Bool.and_eq_true,decide_eq_true_eq] at h
  have h1:IntKind.min .i64 = -9223372036854775808:=rfl
  have h2:IntKind.max .i64=9223372036854775807:=rfl
  simp [Lit.wf,h1,h2,h]
def keyOne (n:Int):Option (List Lit):=if IntKind.i64=IntKind.i64/\(Lit.int .i64 n).wf=true then some [Lit.int .i64 n] else none
def MapOK (kp vp:Value->Prop) (es:Array MapEntry):Prop:=∀ e∈es.toList,kp e.key/\vp e.val
structure KeyP (K:TypeId) (kp:Value->Prop):Prop where
  law:Maps.Keyed Try.prog K
  key:∀ v,kp v->∃ l,keyOf Try.prog K v=some l
section
variable {T K V : TypeId} {kp vp : Value → Prop} {es : Array MapEntry} {clock bm : Nat} {w : World} {k v : Value}
theorem map_look (hu:Try.prog.underlying T=some (.map K V)) {z:Value} (hz:∀ w,(zeroValue V).run Try.prog w = .ok z w) (hK:KeyP K kp) (hvz:vp z) (hb:w.heap[bm]? = some (.map es clock)) (hm:MapOK kp vp es) (hk:kp k) :
    ∃ v,vp v/\(Instr.lookup T (.map (some bm)) k false).run Try.prog w = .ok v w:=by
  obtain ⟨l,hl⟩:=hK.key k hk
  rcases hK.law.find w hl es.toList (fun e he=>hK.key _ (hm e he).1) with ⟨g1,g2⟩|⟨j,e0,g1,g2,g3⟩
  . refine ⟨z,hvz,?_⟩
    simp [Instr.lookup,run_underlying hu,MapKept.run_getObj_map hb,hK.law.check w _ hl,g1,hz,Result.andThen]
  . refine ⟨e0.val,(hm e0 (List.mem_of_getElem? g2)).2,?_⟩
    simp [Instr.lookup,run_underlying hu,MapKept.run_getObj_map hb,hK.law.check w _ hl,g1,Result.andThen]
theorem map_put (hu:Try.prog.underlying T=some (.map K V)) (hK:KeyP K kp) (hb:w.heap[bm]? = some (.map es clock)) (hm:MapOK kp vp es) (hk:kp k) (hv:vp v) :
    ∃ es' clock',(Instr.mapUpdate T (.map (some bm)) k v).run Try.prog w = .ok () (w.putObj bm (.map es' clock'))/\MapOK kp vp es':=by
  obtain ⟨l,hl⟩:=hK.key k hk
  rcases hK.law.find w hl es.toList (fun e he=>hK.key _ (hm e he).1) with ⟨g1,g2⟩|⟨j,e0,g1,g2,g3⟩
  . refine ⟨es.push ⟨k,v,clock⟩,clock+1,?_,?_⟩
    . simp [Instr.mapUpdate,run_underlying hu,MapKept.run_getObj_map hb,hK.law.check w false hl,g1,MapKept.run_setObj_map _ hb,Result.andThen,World.putObj]
    . intro e he
      simp only [Array.toList_push,List.mem_append,List.mem_singleton] at he
      rcases he with he|rfl
      . exact hm e he
      . exact ⟨hk,hv⟩
  . have hj:es[j]? = some e0:=by simpa using g2
    refine ⟨es.modify j fun e=>{ e with key:=k,val:=v },clock,?_,?_⟩
    . simp [Instr.mapUpdate,run_underlying hu,MapKept.run_getObj_map hb,hK.law.check w false hl,g1,hj,g3,hK.law.stays w hl,MapKept.run_setObj_map _ hb,Result.andThen,World.putObj]
    . intro e he
      obtain ⟨i,hi⟩:=List.mem_iff_getElem?.1 he
      have hi':(es.modify j fun e=>{ e with key:=k,val:=v })[i]? = some e:=by rw [<- Array.getElem?_toList];exact hi
      rw [Array.getElem?_modify] at hi'
      split at hi'
      . cases hx:es[i]? with
        | none=>rw [hx] at hi';cases hi'
        | some e1=>rw [hx] at hi';cases hi';exact ⟨hk,hv⟩
      . exact hm e (List.mem_of_getElem? (by simpa using hi'))
end
def kpI (v:Value):Prop:=∃ n,rng n=true/\v = .int .i64 n
def kpP (v:Value):Prop:=∃ a b,rng a=true/\rng b=true/\v=pairV a b
def vpI (v:Value):Prop:=∃ n,v = .int .i64 n
def vpB (v:Value):Prop:=∃ b,v = .bool b
theorem und3:Try.prog.underlying 3=some (.int .i64):=by kernel_rfl
theorem keyI:KeyP 3 kpI:=⟨Maps.int_keyed und3,fun v ⟨n,h,e⟩=>by
  subst e
  have:=rng_wf h
  exact ⟨_,Maps.keyOf_int_mk und3 this⟩⟩
theorem und130:Try.prog.underlying 90=some (.struct ((Try.prog.underlying 90).elim #[] fun d=>match d with | .struct fs=>fs|_ => #[])):=by kernel_rfl
theorem kl130 (a b:Int):Try.prog.keyLits (Try.prog.types.size+1) 90 (pairV a b).cells.toList=(([keyOne a,keyOne b]).mapM id).map List.flatten:=by kernel_rfl
theorem kf130 (a b:Int):(Try.prog.keyType 90 && (pairV a b).formed Try.prog 90)=true:=by kernel_rfl
theorem keyP:KeyP 90 kpP:=⟨Maps.Keyed.of_law (deep_law_laid laidOut (m:=2) (by omega) (of_decide_eq_true (by kernel_rfl)) (by kernel_rfl) (by kernel_rfl)),fun v ⟨a,b,ha,hb,e⟩=>by
  subst e
  have h1:=rng_wf ha
  have h2:=rng_wf hb
  unfold keyOf
  rw [und130,kf130,kl130]
  simp [keyOne,h1,h2]⟩
theorem und91:Try.prog.underlying 83=some (.map 3 3):=by kernel_rfl
theorem und95:Try.prog.underlying 55=some (.map 90 4):=by kernel_rfl
theorem und96:Try.prog.underlying 56=some (.map 3 4):=by kernel_rfl
theorem zero3 (w:World):(zeroValue 3).run Try.prog w = .ok (.int .i64 0) w:=by kernel_rfl
theorem zero4 (w:World):(zeroValue 4).run Try.prog w = .ok (.bool false) w:=by kernel_rfl
end Go.V
namespace Go.V
open Go.Proofs
noncomputable def specs85a:List Spec:=[]
def hints85a:List (Nat×List Nat):=[(4000001,[1,42])]
noncomputable def F85a (N:Nat) (x:(((List (List Int))×((List Int)×Unit))×Unit)):Out (Unit×(((List (List Int))×((List Int)×Unit))×Unit)) :=
  .ret ((),(x.1,()))
theorem e85a (N:Nat) (x:(((List (List Int))×((List Int)×Unit))×Unit)):vfn Try.prog (phi specs85a) hints85a N Try.f39 false false (.prod (.prod (.list (.list (.int .i64))) (.prod (.list (.int .i64)) .unit)) .unit) (.clo 61 .unit (.prod (.ptr (.prod (.list (.list (.int .i64))) (.prod (.list (.int .i64)) .unit))) .unit)) x=F85a N x:=by
  kernel_rfl
noncomputable def f85a (x:(((List (List Int))×((List Int)×Unit))×Unit)):Out (Unit×(((List (List Int))×((List Int)×Unit))×Unit)):=F85a fuel x
noncomputable def sp85a:Spec:=⟨39,.call,(.prod (.prod (.list (.list (.int .i64))) (.prod (.list (.int .i64)) .unit)) .unit),(.clo 61 .unit (.prod (.ptr (.prod (.list (.list (.int .i64))) (.prod (.list (.int .i64)) .unit))) .unit)),false,false,f85a⟩
theorem c85a:Contract Try.prog sp85a:=contract_at (l:=specs85a) (arg:=(.prod (.prod (.list (.list (.int .i64))) (.prod (.list (.int .i64)) .unit)) .unit)) (res:=(.clo 61 .unit (.prod (.ptr (.prod (.list (.list (.int .i64))) (.prod (.list (.int .i64)) .unit))) .unit))) (multi:=false) (own:=false) (F:=f85a) mixed all_nil Try.func39 rfl hints85a fun x _=>⟨fuel,e85a fuel x⟩
noncomputable def specs122a:List Spec:=[]
def hints122a:List (Nat×List Nat):=[(4000001,[2,66,3,3])]
noncomputable def F122a (N:Nat) (x:(((Int×(Int×((List Int)×((List Int)×Unit))))×(Int×Unit))×(Int×Unit))):Out (Unit×(((Int×(Int×((List Int)×((List Int)×Unit))))×(Int×Unit))×(Int×Unit))) :=
  .ret ((),(x.1,(x.2.1,())))
theorem e122a (N:Nat) (x:(((Int×(Int×((List Int)×((List Int)×Unit))))×(Int×Unit))×(Int×Unit))):vfn Try.prog (phi specs122a) hints122a N Try.f67 false false (.prod (.prod (.prod (.int .i64) (.prod (.int .i64) (.prod (.list (.int .i64)) (.prod (.list (.int .i64)) .unit)))) (.prod (.int .i64) .unit)) (.prod (.int .i64) .unit)) (.clo 77 .unit (.prod (.ptr (.prod (.prod (.int .i64) (.prod (.int .i64) (.prod (.list (.int .i64)) (.prod (.list (.int .i64)) .unit)))) (.prod (.int .i64) .unit))) (.prod (.ptr (.int .i64)) .unit))) x=F122a N x:=by
  kernel_rfl
noncomputable def f122a (x:(((Int×(Int×((List Int)×((List Int)×Unit))))×(Int×Unit))×(Int×Unit))):Out (Unit×(((Int×(Int×((List Int)×((List Int)×Unit))))×(Int×Unit))×(Int×Unit))):=F122a fuel x
noncomputable def sp122a:Spec:=⟨67,.call,(.prod (.prod (.prod (.int .i64) (.prod (.int .i64) (.prod (.list (.int .i64)) (.prod (.list (.int .i64)) .unit)))) (.prod (.int .i64) .unit)) (.prod (.int .i64) .unit)),(.clo 77 .unit (.prod (.ptr (.prod (.prod (.int .i64) (.prod (.int .i64) (.prod (.list (.int .i64)) (.prod (.list (.int .i64)) .unit)))) (.prod (.int .i64) .unit))) (.prod (.ptr (.int .i64)) .unit))),false,false,f122a⟩
theorem c122a:Contract Try.prog sp122a:=contract_at (l:=specs122a) (arg:=(.prod (.prod (.prod (.int .i64) (.prod (.int .i64) (.prod (.list (.int .i64)) (.prod (.list (.int .i64)) .unit)))) (.prod (.int .i64) .unit)) (.prod (.int .i64) .unit))) (res:=(.clo 77 .unit (.prod (.ptr (.prod (.prod (.int .i64) (.prod (.int .i64) (.prod (.list (.int .i64)) (.prod (.list (.int .i64)) .unit)))) (.prod (.int .i64) .unit))) (.prod (.ptr (.int .i64)) .unit)))) (multi:=false) (own:=false) (F:=f122a) mixed all_nil Try.func67 rfl hints122a fun x _=>⟨fuel,e122a fuel x⟩
end Go.V
namespace Go.V
open Go.Proofs
open Go.RowKit (Below)
theorem GoodH.grow {H:Hole} {F:Nat->Prop} {M0:Base} {s s':H.σ} {M M':Mut} {st:St} {a:Act} {w w':World} (h:GoodH H F M0 s M st a w) (hf:Fr (fun k=>k<w.heap.size/\¬ H.hb s w k) w w') (hI:H.I s' M' w')
    (hup:∀ b o,M b o->H.hb s w b\/M' b o) (hnew:∀ b o,M' b o->M b o\/(w.heap.size<=b/\b<w'.heap.size)) (hbs:∀ b,H.hb s' w' b->H.hb s w b\/w.heap.size<=b) (hmu:∀ b,H.hb s' w' b->∀ o,M' b o) :
    Fr F w w'/\GoodH H F M0 s' M' st a w':=by
  obtain ⟨hH,hg,hh⟩:=h
  have hout:∀ k,k<w.heap.size->¬ H.hb s w k->w'.heap[k]? = w.heap[k]? := fun k h1 h2=>hf.block k ⟨h1,h2⟩
  have howns:∀ i k b,owns st a w i k b->w'.heap[b]? = w.heap[b]? := fun i k b ho=>hout b (owns_lt hg.slot ho) fun hB=>(hh b hB).2.2 i k ho
  have hold:∀ i k b,owns st a w' i k b->owns st a w i k b:=fun i k b ho=>owns_world (fun i b ho=>howns i none b ho) ho
  refine ⟨⟨hf.os,hf.tape,hf.output,hf.size,fun b hF=>hout b (hg.room b hF) fun hB=>(hh b hB).1 hF⟩,hI,?_,fun b hb=>⟨fun hF=>?_,hmu b hb,fun i k ho=>?_⟩⟩
  . refine hg.world (M':=M') (fun b o v hc hm=>?_) hf.size (fun b o hm=>?_) (fun b o hm=>?_) (fun b o hF hm=>?_) (fun D c e=>?_) fun i k b ho=>⟨howns i k b ho,fun o hm=>?_⟩
    . have hnb:¬ H.hb s w b:=fun hB=>hm ((hh b hB).2.1 o)
      refine ⟨(World.cell?_of_block (a:=⟨b,o,none⟩) (hout b (cell_lt hc) hnb)).trans hc,fun hm'=>?_⟩
      rcases hnew b o hm' with h1|⟨h1,_⟩
      . exact hm h1
      . have:=cell_lt hc;omega
    . exact (hup b o (hg.up b o hm)).resolve_left fun hB=>(hh b hB).1 (hg.base b o hm)
    . rcases hnew b o hm with h1|⟨_,h1⟩
      . exact Nat.lt_of_lt_of_le (hg.lt b o h1) hf.size
      . exact h1
    . rcases hnew b o hm with h1|⟨h1,_⟩
      . exact hg.down b o hF h1
      . have:=hg.room b hF;omega
    . exact (hout D (Array.getElem?_eq_some_iff.1 e).1 fun hB=>H.nd s M w D c hH hB e).trans e
    . exact (hup b o hm).resolve_left fun hB=>(hh b hB).2.2 i k ho
  . rcases hbs b hb with h1|h1
    . exact (hh b h1).1 hF
    . have:=hg.room b hF;omega
  . have ho:=hold i k b ho
    rcases hbs b hb with h1|h1
    . exact (hh b h1).2.2 i k ho
    . have:=owns_lt hg.slot ho;omega
theorem owns_keep {w w':World} {base E sz n:Nat} {v:Value} {us:List Value} (h:w.ownsRow base E sz v n us) (hk:∀ g,ownB v=some g->w'.heap[g]? = w.heap[g]?):w'.ownsRow base E sz v n us:=by
  refine ⟨h.1,?_⟩
  rcases h.2 with h|⟨g',cap,cur,rfl,h0,h1,h2⟩
  . exact .inl h
  . exact .inr ⟨g',cap,cur,rfl,h0,(hk g' rfl).trans h1,h2⟩
def undAll (l:List Nat) (st:St):St:=l.foldl (fun st i=>st.set i .und) st
theorem append_one {P:Program} {w:World} {t ty e:TypeId} {i:TypeInfo} {z:Value} (ht:P.underlying t=some (.slice e)) (hi:P.info? e=some i) (hz:i.zero=some z) (hsize:i.size=1) (hby:i.bytes<=1000) (hzs:z.cells.size=1)
    {v:Value} {us:List Value} (hown:w.ownsRow 0 e 1 v us.length us) {b:Nat} {x:Value} (hc:w.cell? ⟨b,0,none⟩=some x) (hx:x.oneCell'=true) (hlen:us.length<1000000000) :
    ∃ v' w',(Builtin.append_ #[t,t] ty #[v,.slice (some ⟨b,0,none⟩) 1 1]).run P w = .ok v' w'/\w'.ownsRow 0 e 1 v' (us++[x]).length (us++[x])/\w.grownBy w' (ownB v)/\(ownB v'=ownB v\/ownB v'=some w.heap.size):=by
  have hn:∀ (j:Nat) u,[x][j]? = some u->w.cell? ((⟨b,0,none⟩:Addr).add j)=some u:=fun j u hj=>by
    match j,hj with
    | 0,hj=>cases hj;exact hc
    | j+1,hj=>cases hj
  have h1:∀ u∈[x],u.oneCell'=true:=fun u hu=>by simp at hu;subst hu;exact hx
  have hbb:(us.length+1) * i.bytes<=140737488355328:=by
    have:(us.length+1) * i.bytes<=1000000000 * 1000:=Nat.mul_le_mul (by omega) hby
    omega
  obtain ⟨v',w',g1,g2,g3,_⟩:=run_append_own (P:=P) w 0 t ty e i z 1 i.bytes ht hi hz hsize rfl hzs (by omega) v us.length us hown ⟨b,0,none⟩ 1 1 [x] rfl hn h1 (by unfold maxLen;omega) hbb (by omega)
  have hsz1:[x].length=1 * i.size:=by rw [hsize];rfl
  refine ⟨v',w',g1,by simpa using g2,?_,?_⟩
  . have:v.ownBlock=ownB v:=by rcases hown.2 with ⟨rfl,_⟩|⟨g,cap,cur,rfl,_⟩<;>rfl
    rw [<- this];exact g3
  rcases hown.2 with ⟨rfl,h0⟩|⟨g,cap,cur,rfl,_,hg,hnc,hcm,hcs,htake⟩
  . have hr:=Go.run_append_nil (P:=P) w t ty e i z ht hi hz ⟨b,0,none⟩ 1 1 [x] hsz1 hn (by omega) (by omega) (by omega)
    rw [hr] at g1
    cases g1
    exact .inr rfl
  . by_cases hroom:us.length+1<=cap
    . have hr:=Go.run_append_room (P:=P) w t ty e i ht hi g us.length cap cur hg ⟨b,0,none⟩ 1 1 [x] hsz1 hn h1 hroom (by rw [hsize,hcs];simp;omega)
      rw [hr] at g1
      cases g1
      exact .inl rfl
    . have holds:∀ (j:Nat) u,us[j]? = some u->w.cell? ((⟨g,0,none⟩:Addr).add j)=some u:=hown.cells (g:=g) rfl
      have hr:=Go.run_append_grow (P:=P) w t ty e i z ht hi hz ⟨g,0,none⟩ us.length cap us (by rw [hsize];simp) holds ⟨b,0,none⟩ 1 1 [x] hsz1 hn (by omega) (by omega) (growslice_fits (by omega) hbb)
      rw [hr] at g1
      cases g1
      exact .inr rfl
theorem own_one {w:World} {E n:Nat} {v:Value} {us:List Value} (h:w.ownsRow 0 E 1 v n us):v.oneCell'=true/\v.cells = #[v]:=by
  rcases h.2 with ⟨rfl,_⟩|⟨g,cap,cur,rfl,_⟩<;>exact ⟨rfl,rfl⟩
set_option maxRecDepth 8000 in
theorem repV_slice {M:Mut} {w:World} {e:Ty} {v:Value} {x:List e.den} (h:RepV M w (.list e) v x):(∃ ad n c,v = .slice ad n c)/\RepC M w (.list e) [v] x:=by
  obtain ⟨cs,rfl,hc⟩:=h
  obtain ⟨ad,cap,e1,_⟩:=id hc
  subst e1
  exact ⟨⟨_,_,_,rfl⟩,hc⟩
set_option maxRecDepth 8000 in
section
variable {a : Act} {w : World} {o : Oper}
theorem ex_load1 {T p:Nat} {t:Ty} (hty:tyOf Try.prog 9 T=some t) (hag:t.agg=false) (hts:t.size=1) (ho:o.op = .load T (.tmp p)) {b:Nat} {v:Value} {E:Nat} (ht:tm a p = .pointer (some ⟨b,0,none⟩)) (hh:w.heap[b]? = some (.cells #[v] E (0,0))) :
    (execOp a.eval o).run Try.prog w = .ok (.value v) w:=by
  have:=load_cells (P:=Try.prog) (n:=9) (T:=T) (t:=t) (w:=w) (b:=b) (off:=0) (us':=[]) (c1:=[v]) hty hh rfl hts.symm
  have e1:a.eval (.tmp p) = .pointer (some ⟨b,0,none⟩):=ht
  have e2:toVal t [v]=v:=by unfold toVal;rw [hag];rfl
  rw [e2] at this
  simp [execOp,ho,e1,Instr.loadAt,Instr.sureAddr,this]
theorem ex_store1 {T p q:Nat} {t:Ty} (hty:tyOf Try.prog 9 T=some t) (hts:t.size=1) (ho:o.op = .store T (.tmp p) (.tmp q)) {b:Nat} {v u:Value} {E:Nat} (ht:tm a p = .pointer (some ⟨b,0,none⟩)) (hq:tm a q=u) (hu:u.oneCell'=true) (huc:u.cells = #[u]) (hh:w.heap[b]? = some (.cells #[v] E (0,0))) :
    (execOp a.eval o).run Try.prog w = .ok .skip (w.setRow b #[u]):=by
  have e1:a.eval (.tmp p) = .pointer (some ⟨b,0,none⟩):=ht
  have e3:a.eval (.tmp q)=u:=hq
  have hrun:=run_storeVar (P:=Try.prog) (n:=9) (T:=T) (t:=t) hty (o:=0) (v:=u) (by rw [huc,hts];rfl) hh (by rw [hts];show 0+1<=1;omega) (by rw [huc];intro x hx;simp at hx;rw [hx];exact hu)
  rw [huc,hts] at hrun
  simp only [execOp,ho,e1,e3,Instr.storeAt,Instr.sureAddr,Sem.run_bind,Sem.run_pure,Result.andThen_ok]
  rw [hrun]
  rfl
theorem ex_len {T E:TypeId} (hu:Try.prog.underlying T=some (.slice E)) {p:Nat} (ho:o.op = .call { callee:=.builtin .len,args := #[.tmp p],argTypes := #[T] }) {ad:Option Addr} {n c:Nat} (h0:tm a p = .slice ad n c):(execOp a.eval o).run Try.prog w = .ok (.value (.int .i64 n)) w:=by
  have e0:a.eval (.tmp p) = .slice ad n c:=h0
  have hr:=run_len (P:=Try.prog) (T:=T) (v:=.slice ad n c) (n:=n) (.inr ⟨⟨E,hu⟩,ad,c,rfl⟩) o.type [] w
  simp [execOp,ho,resolve,invoke,builtin,e0]
  rw [hr];rfl
end
section
variable {P : Program} [Inv P] {ro : Option Nat} {n : Nat} {ops : Array Oper} {Q : Exit → Act → World → Prop} {i : Nat} {o : Oper} {a : Act} {w w' : World} {K : Act → World → Prop}
theorem opr_value (hi:ops[i]? = some o) (hw:Region.wanted o (yielded ops a.tmps)=true) (hd:∀ c,o.op ≠ .defer c) {v:Value} (hr:(execOp a.eval o).run P w = .ok (.value v) w') (hK:K (a.put o.dst v) w'):wpOpIn (fen ro) n P ops Q i K a w:=by
  unfold wpOpIn
  simp only [hi]
  rw [hw,if_pos rfl]
  refine ⟨fun f _=>fen_fn ro f,?_⟩
  rw [Oper.semAt_eq _ _ _ fun c e=>absurd e (hd c),hr]
  exact hK
theorem opr_skip (hi:ops[i]? = some o) (hw:Region.wanted o (yielded ops a.tmps)=false) (hK:K (a.put o.dst undef) w):wpOpIn (fen ro) n P ops Q i K a w:=by
  unfold wpOpIn
  simp only [hi]
  rw [hw,if_neg (by simp)]
  exact ⟨fun f _=>fen_fn ro f,hK⟩
theorem opr_skipped (hi:ops[i]? = some o) (hw:Region.wanted o (yielded ops a.tmps)=true) (hd:∀ c,o.op ≠ .defer c) (hr:(execOp a.eval o).run P w = .ok .skip w') (hK:K (a.put o.dst undef) w'):wpOpIn (fen ro) n P ops Q i K a w:=by
  unfold wpOpIn
  simp only [hi]
  rw [hw,if_pos rfl]
  refine ⟨fun f _=>fen_fn ro f,?_⟩
  rw [Oper.semAt_eq _ _ _ fun c e=>absurd e (hd c),hr]
  exact hK
theorem opr_enter (hi:ops[i]? = some o) (hw:Region.wanted o (yielded ops a.tmps)=true) (hd:∀ c,o.op ≠ .defer c) {f:FuncId} {args:Array Value} (hr:(execOp a.eval o).run P w = .ok (.enter f args) w')
    (hK:Calls P f args w' fun e w2=>∃ v,e = .returned v/\K (a.put o.dst v) w2):wpOpIn (fen ro) n P ops Q i K a w:=by
  unfold wpOpIn
  simp only [hi]
  rw [hw,if_pos rfl]
  refine ⟨fun f _=>fen_fn ro f,?_⟩
  rw [Oper.semAt_eq _ _ _ fun c e=>absurd e (hd c),hr]
  refine ⟨fun hd=>(by rw [fen_depth] at hd;cases hd),calls_fen (hK.mono ?_)⟩
  rintro e w2 ⟨v,rfl,h⟩
  exact h
end
section
variable {H : Hole} {F : Nat → Prop} {M0 : Base} {w0 : World} {s : H.σ} {st : St} {a : Act} {w : World}
theorem set_get {st:St} {d:Nat} (h:get st d = .und):st.set d .und=st:=by
  by_cases hd:d<st.length
  . have e:st[d] = .und:=by
      unfold get at h
      rw [List.getD_eq_getElem?_getD,List.getElem?_eq_getElem hd] at h
      exact h
    conv=>lhs;rw [<- e]
    exact List.set_getElem_self hd
  . exact List.set_eq_of_length_le (by omega)
theorem free_put (hc:ConcH H F M0 w0 s st a w) {d:Nat} (h:get st d = .und) (v:Value):ConcH H F M0 w0 s st (a.put (some d) v) w:=by
  obtain ⟨hf,M,hG⟩:=hc
  have hg:=hG.focus.fin (dst:=some d) (s:=.und) (v:=v) (fun d' hd=>by cases hd;rw [h];rfl) rfl trivial
  have hg:Good (apartB M0 (H.hb s w) M w) (fun b=>F b\/H.hb s w b) M (st.set d .und) (a.put (some d) v) w:=hg
  rw [set_get h] at hg
  exact ⟨hf,M,hG.unfocus (Fr.refl _ _) hg⟩
theorem mask_put (hc:ConcH H F M0 w0 s st a w) {st':St} (hl:st'.length=st.length) (hm:∀ j,get st' j = .und\/get st' j=get st j) (hpl:∀ j v,M0.pin j=some v->False) (hs:∀ j,qs (get st' j)=true):ConcH H F M0 w0 s st' a w:=by
  obtain ⟨hf,M,hG⟩:=hc
  exact ⟨hf,M,hG.unfocus (Fr.refl _ _) (hG.focus.mask hl (fun j=>by
    rcases hm j with e|e
    . exact .inl e
    . refine .inr (.inl ?_)
      have hq:=hs j
      rw [e] at hq ⊢
      cases h:get st j<;>rw [h] at hq<;>first|rfl|cases hq) fun j v hj=>(hpl j v hj).elim)⟩
end
section
variable {a : Act} {w : World} {o : Oper}
theorem ex_field98 {k off:Nat} (hk:k=1/\off=2\/k=2/\off=3\/k=3/\off=4) {p:Nat} (ho:o.op = .fieldAddr 58 (.tmp p) k) {b j:Nat} (h:tm a p = .pointer (some ⟨b,j,none⟩)):(execOp a.eval o).run Try.prog w = .ok (.value (.pointer (some ⟨b,j+off,none⟩))) w:=by
  have e:a.eval (.tmp p) = .pointer (some ⟨b,j,none⟩):=h
  simp only [execOp,ho,e]
  rcases hk with ⟨rfl,rfl⟩|⟨rfl,rfl⟩|⟨rfl,rfl⟩<;>simp [go_sem,add_lit]
theorem ex_lt {T:Nat} {p q:Nat} (ho:o.op = .binOp .lss 3 (.tmp p) (.tmp q) 3) {x y:Int} (h1:tm a p = .int .i64 x) (h2:tm a q = .int .i64 y):(execOp a.eval o).run Try.prog w = .ok (.value (.bool (decide (x<y)))) w:=by
  have e1:a.eval (.tmp p) = .int .i64 x:=h1
  have e2:a.eval (.tmp q) = .int .i64 y:=h2
  have e3:(binOp .lss 3 (.int .i64 x) (.int .i64 y)).run Try.prog w = .ok (.bool (decide (x<y))) w:=by simp [binOp,Op.intCmp]
  simp [execOp,ho,e1,e2,eqG_int,e3]
theorem ex_add1 {p:Nat} (ho:o.op = .binOp .add 3 (.tmp p) (.const (.int .i64 1)) 3) {x:Int} (h:tm a p = .int .i64 x):(execOp a.eval o).run Try.prog w = .ok (.value (.int .i64 (IntKind.i64.wrap (x+1)))) w:=by
  have e1:a.eval (.tmp p) = .int .i64 x:=h
  have e2:a.eval (.const (.int .i64 1)) = .int .i64 1:=rfl
  have e3:(binOp .add 3 (.int .i64 x) (.int .i64 1)).run Try.prog w = .ok (.int .i64 (IntKind.i64.wrap (x+1))) w:=by simp [binOp,Op.intArith]
  simp [execOp,ho,e1,e2,eqG_int,e3]
theorem ex_eqlI {p q:Nat} (ho:o.op = .binOp .eql 3 (.tmp p) (.tmp q) 3) {x y:Int} (h1:tm a p = .int .i64 x) (h2:tm a q = .int .i64 y):∃ b,(execOp a.eval o).run Try.prog w = .ok (.value (.bool b)) w:=by
  have e1:a.eval (.tmp p) = .int .i64 x:=h1
  have e2:a.eval (.tmp q) = .int .i64 y:=h2
  have e3:(binOp .eql 3 (.int .i64 x) (.int .i64 y)).run Try.prog w = .ok (.bool (x==y)) w:=by simp [binOp,Op.intCmp]
  exact ⟨x==y,by simp [execOp,ho,e1,e2,eqG_int,e3]⟩
theorem ex_pickT {p q:Nat} (ho:o.op = .pick (.tmp p) (.const (.bool true)) (.tmp q)) {b:Bool} {v:Value} (h:tm a p = .bool b) (h1:b=false->tm a q=v):(execOp a.eval o).run Try.prog w = .ok (.value (if b then .bool true else v)) w:=by
  have e1:a.eval (.tmp p) = .bool b:=h
  have e0:a.eval (.const (.bool true)) = .bool true:=rfl
  cases b with
  | true=>simp [execOp,ho,e0,e1,asBool]
  | false =>
    have e2:a.eval (.tmp q)=v:=h1 rfl
    simp [execOp,ho,e1,e2,asBool]
theorem ex_look {T:Nat} {p q:Nat} (ho:o.op = .lookup T (.tmp p) (.tmp q) false) {m k v:Value} (h1:tm a p=m) (h2:tm a q=k) (hr:(Instr.lookup T m k false).run Try.prog w = .ok v w):(execOp a.eval o).run Try.prog w = .ok (.value v) w:=by
  have e1:a.eval (.tmp p)=m:=h1
  have e2:a.eval (.tmp q)=k:=h2
  simp [execOp,ho,e1,e2,hr]
theorem ex_put {T:Nat} {x:Operand} {p q:Nat} (ho:o.op = .mapUpdate T (.tmp p) (.tmp q) x) {m k v:Value} {w':World} (h1:tm a p=m) (h2:tm a q=k) (h3:a.eval x=v) (hr:(Instr.mapUpdate T m k v).run Try.prog w = .ok () w'):(execOp a.eval o).run Try.prog w = .ok .skip w':=by
  have e1:a.eval (.tmp p)=m:=h1
  have e2:a.eval (.tmp q)=k:=h2
  simp [execOp,ho,e1,e2,h3,hr]
theorem ex_build130 {p q:Nat} (ho:o.op = .build 90 #[(0,.tmp p),(1,.tmp q)]) {x y:Int} (h1:tm a p = .int .i64 x) (h2:tm a q = .int .i64 y):(execOp a.eval o).run Try.prog w = .ok (.value (pairV x y)) w:=by
  have e1:a.eval (.tmp p) = .int .i64 x:=h1
  have e2:a.eval (.tmp q) = .int .i64 y:=h2
  simp only [execOp,ho,List.map_toArray,List.map_cons,List.map_nil,e1,e2]
  simp [go_sem,pairV]
theorem ex_build65 {q:Nat} (ho:o.op = .buildSlice 40 1 #[(0,.tmp q)]) {u:Value} (h1:tm a q=u) (hz:∃ ad n c,u = .slice ad n c):(execOp a.eval o).run Try.prog w = .ok (.value (.slice (some ⟨w.heap.size,0,none⟩) 1 1)) (w.alloc (.cells #[u] 22)):=by
  obtain ⟨ad,n,c,rfl⟩:=hz
  have e1:a.eval (.tmp q) = .slice ad n c:=h1
  simp only [execOp,ho,List.map_toArray,List.map_cons,List.map_nil,e1]
  simp [go_sem]
theorem ex_app65 {p q:Nat} {v:Value} {us:List Value} {x:Value} {b:Nat} (ho:o.op = .call { callee:=.builtin .append,args := #[.tmp p,.tmp q],argTypes := #[40,40] }) (h0:tm a p=v) (h1:tm a q = .slice (some ⟨b,0,none⟩) 1 1)
    (hown:w.ownsRow 0 22 1 v us.length us) (hc:w.cell? ⟨b,0,none⟩=some x) (hx:x.oneCell'=true) (hlen:us.length<1000000000) :
    ∃ v' w',(execOp a.eval o).run Try.prog w = .ok (.value v') w'/\w'.ownsRow 0 22 1 v' (us++[x]).length (us++[x])/\w.grownBy w' (ownB v)/\(ownB v'=ownB v\/ownB v'=some w.heap.size):=by
  have e0:a.eval (.tmp p)=v:=h0
  have e1:a.eval (.tmp q) = .slice (some ⟨b,0,none⟩) 1 1:=h1
  obtain ⟨v',w',g1,g2⟩:=append_one (P:=Try.prog) (w:=w) (t:=40) (ty:=o.type) (e:=22) (i:=(Try.prog.info? 22).getD default) (z:=.slice none 0 0) (by kernel_rfl) (by kernel_rfl) (by kernel_rfl) (by kernel_rfl) (of_decide_eq_true (by kernel_rfl)) (by kernel_rfl) hown hc hx hlen
  refine ⟨v',w',?_,g2⟩
  simp [execOp,ho,resolve,e0,e1,invoke,builtin,g1]
end
end Go.V
namespace Go.V
open Go.Proofs
open Go.RowKit (Below)
structure SB where
  b4:Nat
  b6:Nat
  m1:Nat
  m2:Nat
  m3:Nat
  v:Value
  c0:Value
  c1:Value
  sh:SHT
  xs:List (List Int)
def SB.add (s:SB) (v:Value) (c:List Int):SB:={ s with v:=v,xs:=s.xs++[c] }
def ptrV (b:Nat):Value:=.pointer (some ⟨b,0,none⟩)
def MapAt (kp vp:Value->Prop) (m:Nat) (w:World):Prop:=∃ es c,w.heap[m]? = some (.map es c)/\MapOK kp vp es
def RowAt (v:Value) (xs:List (List Int)) (M:Mut) (w:World):Prop:=∃ us:List Value,us.length=xs.length/\w.ownsRow 0 22 1 v us.length us/\∀ (j:Nat) (u:Value) (l:List Int),us[j]? = some u->xs[j]? = some l->RepC M w (.list (.int .i64)) [u] l
structure IB (s:SB) (M:Mut) (w:World):Prop where
  h4:∃ C,w.heap[s.b4]? = some (.cells C 58 (0,0))/\C.size=5
  h6:w.heap[s.b6]? = some (.cells #[s.c0,s.c1,s.v,.map (some s.m1),.map (some s.m2)] 58 (0,0))
  hdr:RepC M w SHTY [s.c0,s.c1] s.sh
  row:RowAt s.v s.xs M w
  m1:MapAt kpP vpB s.m1 w
  m2:MapAt kpI vpB s.m2 w
  m3:MapAt kpI vpI s.m3 w
  ne:s.b4≠s.b6
  nv:∀ g,ownB s.v=some g->g≠s.b4/\g≠s.b6
  mm:s.m1≠s.m2/\s.m1≠s.m3/\s.m2≠s.m3
def hbB (s:SB) (b:Nat):Prop:=b=s.b4\/b=s.b6\/b=s.m1\/b=s.m2\/b=s.m3\/ownB s.v=some b
theorem row_keep {v:Value} {xs:List (List Int)} {M M':Mut} {w w':World} (h:RowAt v xs M w) (hs:Stable M w M' w') (hk:∀ g,ownB v=some g->w'.heap[g]? = w.heap[g]?):RowAt v xs M' w':=by
  obtain ⟨us,h1,h2,h3⟩:=h
  exact ⟨us,h1,owns_keep h2 hk,fun j u l e1 e2=>RepC.mono hs _ _ _ (h3 j u l e1 e2)⟩
theorem row_lt {v:Value} {xs:List (List Int)} {M:Mut} {w:World} (h:RowAt v xs M w) {g:Nat} (hg:ownB v=some g):∃ C E,w.heap[g]? = some (.cells C E (0,0)):=by
  obtain ⟨us,h1,h2,h3⟩:=h
  rcases h2.2 with ⟨rfl,_⟩|⟨g',cap,cur,rfl,_,e,_⟩
  . cases hg
  . cases hg;exact ⟨_,_,e⟩
theorem IB.keep {s:SB} {M M':Mut} {w w':World} (h:IB s M w) (hs:Stable M w M' w') (hk:∀ b,hbB s b->w'.heap[b]? = w.heap[b]?):IB s M' w':=by
  have hm:∀ {kp vp m},hbB s m->MapAt kp vp m w->MapAt kp vp m w':=fun hb ⟨es,c,h1,h2⟩=>⟨es,c,(hk _ hb).trans h1,h2⟩
  obtain ⟨C,h1,h2⟩:=h.h4
  exact ⟨⟨C,(hk _ (.inl rfl)).trans h1,h2⟩,(hk _ (.inr (.inl rfl))).trans h.h6,RepC.mono hs _ _ _ h.hdr,row_keep h.row hs fun g hg=>hk g (.inr (.inr (.inr (.inr (.inr hg))))),hm (.inr (.inr (.inl rfl))) h.m1,hm (.inr (.inr (.inr (.inl rfl)))) h.m2,hm (.inr (.inr (.inr (.inr (.inl rfl))))) h.m3,h.ne,h.nv,h.mm⟩
theorem IB.at_ {s:SB} {M:Mut} {w:World} (h:IB s M w) {b:Nat} (hb:hbB s b):(∃ C E,w.heap[b]? = some (.cells C E (0,0)))\/((b=s.m1\/b=s.m2\/b=s.m3)/\∃ es c,w.heap[b]? = some (.map es c)):=by
  rcases hb with rfl|rfl|rfl|rfl|rfl|hb
  . obtain ⟨C,h1,_⟩:=h.h4;exact .inl ⟨_,_,h1⟩
  . exact .inl ⟨_,_,h.h6⟩
  . obtain ⟨es,c,h1,_⟩:=h.m1;exact .inr ⟨.inl rfl,_,_,h1⟩
  . obtain ⟨es,c,h1,_⟩:=h.m2;exact .inr ⟨.inr (.inl rfl),_,_,h1⟩
  . obtain ⟨es,c,h1,_⟩:=h.m3;exact .inr ⟨.inr (.inr rfl),_,_,h1⟩
  . exact .inl (row_lt h.row hb)
def HB:Hole where
  σ:=SB
  hb s _ b:=hbB s b
  I:=IB
  keep s M w M' w' h hs hk:=h.keep hs hk
  same s M w w' _ _ b h:=h
  lt s M w b h hb:=by
    rcases h.at_ hb with ⟨_,_,e⟩|⟨_,_,_,e⟩<;>exact (Array.getElem?_eq_some_iff.1 e).1
  nd s M w b c h hb e:=by
    rcases h.at_ hb with ⟨_,_,e'⟩|⟨_,_,_,e'⟩<;>(rw [e'] at e;cases e)
section
variable {F : Nat → Prop} {M0 : Base} {w0 : World} {s : SB} {st : St} {a : Act} {w : World}
theorem conc_map (hc:ConcH HB F M0 w0 s st a w) {m:Nat} {es:Array MapEntry} {c:Nat} (hm:m=s.m1\/m=s.m2\/m=s.m3) (h1:m=s.m1->MapOK kpP vpB es) (h2:m=s.m2->MapOK kpI vpB es) (h3:m=s.m3->MapOK kpI vpI es):ConcH HB F M0 w0 s st a (w.putObj m (.map es c)):=by
  obtain ⟨hf,M,hG⟩:=hc
  have hI:IB s M w:=hG.1
  have hb:hbB s m:=by rcases hm with h|h|h<;>simp [hbB,h]
  have hmap:∃ es c,w.heap[m]? = some (.map es c):=by
    rcases hm with rfl|rfl|rfl
    . obtain ⟨es,c,h,_⟩:=hI.m1;exact ⟨es,c,h⟩
    . obtain ⟨es,c,h,_⟩:=hI.m2;exact ⟨es,c,h⟩
    . obtain ⟨es,c,h,_⟩:=hI.m3;exact ⟨es,c,h⟩
  obtain ⟨es0,c0,hm0⟩:=hmap
  have hlt:=(Array.getElem?_eq_some_iff.1 hm0).1
  have hcell:∀ b C E fz,w.heap[b]? = some (.cells C E fz)->b≠m:=fun b C E fz e h=>by rw [h,hm0] at e;cases e
  have hfr:Fr (fun k=>k<w.heap.size/\¬ HB.hb s w k) w (w.putObj m (.map es c)):=⟨rfl,rfl,rfl,by simp,fun k hk=>World.putObj_heap_other fun e=>hk.2 (e ▸ hb)⟩
  have key:∀ w1:World,Fr (fun k=>k<w.heap.size/\¬ HB.hb s w k) w w1->(∀ k,HB.hb s w k->w1.heap[k]? = (w.putObj m (.map es c)).heap[k]?)->IB s M w1:=by
    intro w1 hf1 hk
    have hst:Stable M w M w1:=fun b o v e hn=>by
      have hnb:¬ hbB s b:=fun h=>hn ((hG.2.2 b h).2.1 o)
      exact ⟨(World.cell?_of_block (a:=⟨b,o,none⟩) (hf1.block b ⟨cell_lt e,hnb⟩)).trans e,hn⟩
    have hold:∀ b,hbB s b->b≠m->w1.heap[b]? = w.heap[b]? := fun b h hne=>(hk b h).trans (World.putObj_heap_other hne)
    have hnew:w1.heap[m]? = some (.map es c):=(hk m hb).trans (World.putObj_heap_same hlt)
    have hmm:∀ {kp vp} {m'},hbB s m'->(m=m'->MapOK kp vp es)->MapAt kp vp m' w->MapAt kp vp m' w1:=by
      intro kp vp m' hb' h ⟨es',c',e1,e2⟩
      by_cases e:m'=m
      . subst e;exact ⟨es,c,hnew,h rfl⟩
      . exact ⟨es',c',(hold _ hb' e).trans e1,e2⟩
    obtain ⟨C,e1,e2⟩:=hI.h4
    exact ⟨⟨C,(hold _ (.inl rfl) (hcell _ _ _ _ e1)).trans e1,e2⟩,(hold _ (.inr (.inl rfl)) (hcell _ _ _ _ hI.h6)).trans hI.h6,RepC.mono hst _ _ _ hI.hdr,row_keep hI.row hst fun g hg=>by
      obtain ⟨C,E,e⟩:=row_lt hI.row hg
      exact hold g (.inr (.inr (.inr (.inr (.inr hg))))) (hcell _ _ _ _ e),hmm (.inr (.inr (.inl rfl))) h1 hI.m1,hmm (.inr (.inr (.inr (.inl rfl)))) h2 hI.m2,hmm (.inr (.inr (.inr (.inr (.inl rfl))))) h3 hI.m3,hI.ne,hI.nv,hI.mm⟩
  obtain ⟨f1,hG'⟩:=hG.world (s':=(show HB.σ from s)) hfr (fun w1 _ hf1 hk=>⟨key w1 hf1 hk,fun b h=>h⟩)
  exact ⟨hf.trans f1,M,hG'⟩
end
end Go.V
namespace Go.V
open Go.Proofs
open Go.RowKit (Below)
noncomputable def assign56:Code:=match codeAt [1,1,1,1,1,0,1,0] (bodyOf Try.f20) with|some (.rangeFunc _ _ c _)=>c|_=>.skip
noncomputable def round56:Code:=match codeAt [1,1,1,1,1,0,1,0] (bodyOf Try.f20) with|some (.rangeFunc _ _ _ b)=>b|_=>.skip
noncomputable def r56_12:Array Oper:=regAt 12 round56
theorem info56_12:r56_12.toList.map opInfo=[(some 40,.fieldAddr 58 (.tmp 6) 1,none),
  (some 41,.load 40 (.tmp 40),none),
  (some 42,.move (.tmp 9),none),
  (some 43,.buildSlice 40 1 #[(0,.tmp 42)],none),
  (some 44,.call { callee:=.builtin .append,args := #[.tmp 41,.tmp 43],argTypes := #[40,40] },none),
  (some 45,.fieldAddr 58 (.tmp 6) 1,none),
  (none,.store 40 (.tmp 45) (.tmp 44),none)]:=by kernel_rfl
noncomputable def r56_13:Array Oper:=regAt 13 round56
theorem info56_13:r56_13.toList.map opInfo=[(some 46,.move (.tmp 9),none),
  (some 47,.call { callee:=.builtin .len,args := #[.tmp 46],argTypes := #[22] },none),
  (some 48,.move (.const (.int .i64 0)),none)]:=by kernel_rfl
noncomputable def r56_14:Array Oper:=regAt 14 round56
theorem info56_14:r56_14.toList.map opInfo=[(some 49,.binOp .lss 3 (.tmp 48) (.tmp 47) 3,none)]:=by kernel_rfl
noncomputable def r56_15:Array Oper:=regAt 15 round56
theorem info56_15:r56_15.toList.map opInfo=[(some 50,.move (.tmp 48),none),
  (some 51,.indexAddr 22 (.tmp 46) (.tmp 48),none),
  (some 52,.load 3 (.tmp 51),none),
  (some 10,.assign (.tmp 50),none),
  (some 11,.assign (.tmp 52),none)]:=by kernel_rfl
noncomputable def r56_16:Array Oper:=regAt 16 round56
theorem info56_16:r56_16.toList.map opInfo=[(some 53,.fieldAddr 58 (.tmp 6) 2,none),
  (some 54,.load 55 (.tmp 53),none),
  (some 55,.move (.tmp 10),none),
  (some 56,.move (.tmp 11),none),
  (some 57,.build 90 #[(0,.tmp 55),(1,.tmp 56)],none),
  (none,.mapUpdate 55 (.tmp 54) (.tmp 57) (.const (.bool true)),none)]:=by kernel_rfl
noncomputable def r56_17:Array Oper:=regAt 17 round56
theorem info56_17:r56_17.toList.map opInfo=[(some 58,.fieldAddr 58 (.tmp 6) 3,none),
  (some 59,.load 56 (.tmp 58),none),
  (some 60,.move (.tmp 10),none),
  (some 61,.fieldAddr 58 (.tmp 6) 3,none),
  (some 62,.load 56 (.tmp 61),none),
  (some 63,.move (.tmp 10),none),
  (some 64,.lookup 56 (.tmp 62) (.tmp 63) false,none),
  (some 65,.move (.tmp 64),none),
  (some 66,.move (.tmp 11),some (7,false)),
  (some 67,.load 83 (.tmp 7),some (7,false)),
  (some 68,.move (.tmp 10),some (7,false)),
  (some 69,.lookup 83 (.tmp 67) (.tmp 68) false,some (7,false)),
  (some 70,.binOp .eql 3 (.tmp 66) (.tmp 69) 3,some (7,false)),
  (some 71,.pick (.tmp 65) (.const (.bool true)) (.tmp 70),none),
  (none,.mapUpdate 56 (.tmp 59) (.tmp 60) (.tmp 71),none)]:=by kernel_rfl
noncomputable def r56_18:Array Oper:=regAt 18 round56
theorem info56_18:r56_18.toList.map opInfo=[(some 72,.binOp .add 3 (.tmp 48) (.const (.int .i64 1)) 3,none),
  (some 48,.move (.tmp 72),none)]:=by kernel_rfl
section
variable {ro : Option Nat} {n : Nat} {Q : Exit → Act → World → Prop} {F : Nat → Prop} {M0 : Base} {w0 : World} {s : SB} {st : St} {a : Act} {w : World} {c : List Int}
theorem cell_raw (hc:ConcH HB F M0 w0 s st a w) {j:Nat} {v:Value} (h:get st j = .d .raw v):tm a j=v:=by
  obtain ⟨hf,M,hG⟩:=hc
  have s1:=hG.2.1.slot j
  rw [h] at s1
  exact repV_raw (show RepV M w .raw (tm a j) v from s1)
theorem conc_size (hc:ConcH HB F M0 w0 s st a w) {N:Nat} (hl:st.length=N):a.tmps.size=N:=by
  obtain ⟨hf,M,hG⟩:=hc
  exact hG.2.1.size.trans hl
theorem conc_IB (hc:ConcH HB F M0 w0 s st a w):∃ M,IB s M w:=by
  obtain ⟨hf,M,hG⟩:=hc
  exact ⟨M,hG.1⟩
theorem s12_wp (hc:ConcH HB F M0 w0 s st a w) (hl:st.length=79) (h6:get st 6 = .d .raw (ptrV s.b6)) (h9:get st 9 = .d (.list (.int .i64)) c) (hu:∀ d,40<=d->d<=45->get st d = .und) (hxl:s.xs.length<999999999)
    (hQ:∀ v' a' w',ConcH HB F M0 w0 (s.add v' c) st a' w'->Q .normal a' w'):(Code.region 12 r56_12 false).wpIn (fen ro) n Try.prog Q a w:=by
  have t6:tm a 6=ptrV s.b6:=cell_raw hc h6
  have hsz:=conc_size hc hl
  obtain ⟨hfr,M,hG⟩:=hc
  have hI:IB s M w:=hG.1
  have hg:=hG.2.1
  have s9:=hg.slot 9
  rw [h9] at s9
  obtain ⟨⟨ad,ln,cp,hu9⟩,hrep9⟩:=repV_slice (e:=.int .i64) (show RepV M w (.list (.int .i64)) (tm a 9) c from s9)
  obtain ⟨u,hue⟩:∃ u,u=tm a 9:=⟨_,rfl⟩
  rw [<- hue] at hu9 hrep9
  have t9:tm a 9=u:=hue.symm
  obtain ⟨us,hul,hown,hreps⟩:=hI.row
  have l6:s.b6<w.heap.size:=(Array.getElem?_eq_some_iff.1 hI.h6).1
  refine wpIn_region ?_
  rw [show r56_12.size=7 by kernel_rfl]
  show wpOpsIn (fen ro) n Try.prog r56_12 _ [0,1,2,3,4,5,6] a w
  obtain ⟨o0,i0,d0,p0,q0⟩:=infoAt info56_12 (i:=0) rfl
  simp only at d0 p0 q0
  rw [wpOpsIn_cons]
  refine opr_value i0 (wanted_none q0) (fun c h=>by rw [p0] at h;cases h) (ex_field98 (k:=1) (off:=2) (.inl ⟨rfl,rfl⟩) p0 t6) ?_
  rw [d0]
  obtain ⟨a1,ha1⟩:∃ bb:Act,bb=Act.put a (some 40) (.pointer (some ⟨s.b6,0+2,none⟩)):=⟨_,rfl⟩
  rw [<- ha1]
  have z1:a1.tmps.size=79:=by rw [ha1,size_put];exact hsz
  have t1_40:tm a1 40 = .pointer (some ⟨s.b6,0+2,none⟩):=by rw [ha1];exact tm_put_same (by omega)
  obtain ⟨o1,i1,d1,p1,q1⟩:=infoAt info56_12 (i:=1) rfl
  simp only at d1 p1 q1
  rw [wpOpsIn_cons]
  refine opr_value i1 (wanted_none q1) (fun c h=>by rw [p1] at h;cases h) (ex_loadAt (v:=s.v) (T:=40) (t:=.list (.list (.int .i64))) (by kernel_rfl) rfl rfl p1 (b:=s.b6) (j:=0+2) t1_40 hI.h6 rfl) ?_
  rw [d1]
  obtain ⟨a2,ha2⟩:∃ bb:Act,bb=Act.put a1 (some 41) (s.v):=⟨_,rfl⟩
  rw [<- ha2]
  have z2:a2.tmps.size=79:=by rw [ha2,size_put];exact z1
  have t1_9:tm a1 9=u:=by rw [ha1,tm_put_other (by omega)];exact t9
  have t2_9:tm a2 9=u:=by rw [ha2,tm_put_other (by omega)];exact t1_9
  obtain ⟨o2,i2,d2,p2,q2⟩:=infoAt info56_12 (i:=2) rfl
  simp only at d2 p2 q2
  rw [wpOpsIn_cons]
  refine opr_value i2 (wanted_none q2) (fun c h=>by rw [p2] at h;cases h) (ex_move p2) ?_
  rw [d2,t2_9]
  obtain ⟨a3,ha3⟩:∃ bb:Act,bb=Act.put a2 (some 42) (u):=⟨_,rfl⟩
  rw [<- ha3]
  have z3:a3.tmps.size=79:=by rw [ha3,size_put];exact z2
  have t3_42:tm a3 42=u:=by rw [ha3];exact tm_put_same (by omega)
  obtain ⟨o3,i3,d3,p3,q3⟩:=infoAt info56_12 (i:=3) rfl
  simp only at d3 p3 q3
  rw [wpOpsIn_cons]
  refine opr_value i3 (wanted_none q3) (fun c h=>by rw [p3] at h;cases h) (ex_build65 p3 t3_42 ⟨ad,ln,cp,hu9⟩) ?_
  rw [d3]
  obtain ⟨a4,ha4⟩:∃ bb:Act,bb=Act.put a3 (some 43) (.slice (some ⟨w.heap.size,0,none⟩) 1 1):=⟨_,rfl⟩
  rw [<- ha4]
  have z4:a4.tmps.size=79:=by rw [ha4,size_put];exact z3
  obtain ⟨wc,hwc⟩:∃ wc,wc=w.alloc (.cells #[u] 22):=⟨_,rfl⟩
  rw [<- hwc]
  have hbc:Below w.heap.size w wc:=by rw [hwc];exact (Below.refl _ w).alloc (Nat.le_refl _) _
  have hszc:wc.heap.size=w.heap.size+1:=by rw [hwc];simp
  have hownc:wc.ownsRow 0 22 1 s.v us.length us:=owns_keep hown fun g hg'=>by
    obtain ⟨C,E,e⟩:=row_lt hI.row hg'
    exact hbc.block g (Array.getElem?_eq_some_iff.1 e).1
  have hcc:wc.cell? ⟨w.heap.size,0,none⟩=some u:=cell_at (by rw [hwc];exact heap_alloc_new w _) rfl
  obtain ⟨o4,i4,d4,p4,q4⟩:=infoAt info56_12 (i:=4) rfl
  simp only at d4 p4 q4
  rw [wpOpsIn_cons]
  have t2_41:tm a2 41=s.v:=by rw [ha2];exact tm_put_same (by omega)
  have t3_41:tm a3 41=s.v:=by rw [ha3,tm_put_other (by omega)];exact t2_41
  have t4_41:tm a4 41=s.v:=by rw [ha4,tm_put_other (by omega)];exact t3_41
  have t4_43:tm a4 43 = .slice (some ⟨w.heap.size,0,none⟩) 1 1:=by rw [ha4];exact tm_put_same (by omega)
  obtain ⟨v2,wd,hrd,hownd,hgrd,hblk⟩:=ex_app65 (a:=a4) (w:=wc) p4 t4_41 t4_43 hownc hcc (by rw [hu9];rfl) (by omega)
  refine opr_value i4 (wanted_none q4) (fun c h=>by rw [p4] at h;cases h) hrd ?_
  rw [d4]
  obtain ⟨a5,ha5⟩:∃ bb:Act,bb=Act.put a4 (some 44) (v2):=⟨_,rfl⟩
  rw [<- ha5]
  have z5:a5.tmps.size=79:=by rw [ha5,size_put];exact z4
  have t1_6:tm a1 6 = .pointer (some ⟨s.b6,0,none⟩):=by rw [ha1,tm_put_other (by omega)];exact t6
  have t2_6:tm a2 6 = .pointer (some ⟨s.b6,0,none⟩):=by rw [ha2,tm_put_other (by omega)];exact t1_6
  have t3_6:tm a3 6 = .pointer (some ⟨s.b6,0,none⟩):=by rw [ha3,tm_put_other (by omega)];exact t2_6
  have t4_6:tm a4 6 = .pointer (some ⟨s.b6,0,none⟩):=by rw [ha4,tm_put_other (by omega)];exact t3_6
  have t5_6:tm a5 6 = .pointer (some ⟨s.b6,0,none⟩):=by rw [ha5,tm_put_other (by omega)];exact t4_6
  obtain ⟨o5,i5,d5,p5,q5⟩:=infoAt info56_12 (i:=5) rfl
  simp only at d5 p5 q5
  rw [wpOpsIn_cons]
  refine opr_value i5 (wanted_none q5) (fun c h=>by rw [p5] at h;cases h) (ex_field98 (k:=1) (off:=2) (.inl ⟨rfl,rfl⟩) p5 t5_6) ?_
  rw [d5]
  obtain ⟨a6,ha6⟩:∃ bb:Act,bb=Act.put a5 (some 45) (.pointer (some ⟨s.b6,0+2,none⟩)):=⟨_,rfl⟩
  rw [<- ha6]
  have z6:a6.tmps.size=79:=by rw [ha6,size_put];exact z5
  obtain ⟨hov1,hov2⟩:=own_one hownd
  have h6d:wd.heap[s.b6]? = some (.cells #[s.c0,s.c1,s.v,.map (some s.m1),.map (some s.m2)] 58 (0,0)):=by
    rw [hgrd.block s.b6 (by omega) (fun e=>(hI.nv _ e.symm).2 rfl),hbc.block s.b6 l6];exact hI.h6
  have t6_45:tm a6 45 = .pointer (some ⟨s.b6,0+2,none⟩):=by rw [ha6];exact tm_put_same (by omega)
  have t5_44:tm a5 44=v2:=by rw [ha5];exact tm_put_same (by omega)
  have t6_44:tm a6 44=v2:=by rw [ha6,tm_put_other (by omega)];exact t5_44
  obtain ⟨o6,i6,d6,p6,q6⟩:=infoAt info56_12 (i:=6) rfl
  simp only at d6 p6 q6
  rw [wpOpsIn_cons]
  refine opr_skipped i6 (wanted_none q6) (fun c h=>by rw [p6] at h;cases h) (ex_storeAt (T:=40) (t:=.list (.list (.int .i64))) (by kernel_rfl) rfl p6 (b:=s.b6) (j:=0+2) (u:=v2) t6_45 t6_44 hov1 hov2 h6d (by show 2<5;omega)) ?_
  rw [d6,put_none]
  obtain ⟨we,hwe⟩:∃ we,we=wd.setRow s.b6 (#[s.c0,s.c1,s.v,.map (some s.m1),.map (some s.m2)].setIfInBounds (0+2) v2):=⟨_,rfl⟩
  rw [<- hwe]
  have hsze:we.heap.size=wd.heap.size:=by rw [hwe];exact setRow_size
  have h6e:we.heap[s.b6]? = some (.cells #[s.c0,s.c1,v2,.map (some s.m1),.map (some s.m2)] 58 (0,0)):=by rw [hwe];exact setRow_same h6d
  have hgsz:=hgrd.size
  have hold:∀ k,k<w.heap.size->k≠s.b6->ownB s.v≠some k->we.heap[k]? = w.heap[k]? := fun k h1 h2 h3=>by
    rw [hwe,setRow_other h2,hgrd.block k (by omega) fun e=>h3 e.symm,hbc.block k h1]
  have hnb:∀ k,¬ hbB s k->k≠s.b6/\ownB s.v≠some k:=fun k h=>⟨fun e=>h (.inr (.inl e)),fun e=>h (.inr (.inr (.inr (.inr (.inr e)))))⟩
  obtain ⟨M',hM'⟩:∃ M':Mut,M'=fun b o=>M b o\/(w.heap.size<=b/\b<we.heap.size):=⟨_,rfl⟩
  have hst:Stable M w M' we:=fun b o x hcb hm=>by
    have hn:=hnb b fun hB=>hm ((hG.2.2 b hB).2.1 o)
    refine ⟨(World.cell?_of_block (a:=⟨b,o,none⟩) (hold b (cell_lt hcb) hn.1 hn.2)).trans hcb,fun h=>?_⟩
    rw [hM'] at h
    rcases h with h|⟨h,_⟩
    . exact hm h
    . have:=cell_lt hcb;omega
  have hv2:∀ g,ownB v2=some g->ownB s.v=some g\/g=w.heap.size+1:=fun g hg'=>by
    rcases hblk with h|h
    . exact .inl (h ▸ hg')
    . rw [h,hszc] at hg';cases hg';exact .inr rfl
  obtain ⟨C4,e41,e42⟩:=hI.h4
  have l4:=(Array.getElem?_eq_some_iff.1 e41).1
  have hmap:∀ {kp vp} {m},hbB s m->MapAt kp vp m w->MapAt kp vp m we:=by
    intro kp vp m hb ⟨es,cl,e1,e2⟩
    refine ⟨es,cl,(hold m (Array.getElem?_eq_some_iff.1 e1).1 (fun e=>by rw [e,hI.h6] at e1;cases e1) fun e=>?_).trans e1,e2⟩
    obtain ⟨C,E,e3⟩:=row_lt hI.row e
    rw [e3] at e1;cases e1
  have hI':IB (s.add v2 c) M' we:=by
    refine ⟨⟨C4,(hold s.b4 l4 hI.ne fun e=>(hI.nv _ e).1 rfl).trans e41,e42⟩,h6e,RepC.mono hst _ _ _ hI.hdr,⟨us++[u],by simp [SB.add,hul],owns_keep hownd fun g hg'=>?_,fun j x l hx hxl=>?_⟩,hmap (.inr (.inr (.inl rfl))) hI.m1,hmap (.inr (.inr (.inr (.inl rfl)))) hI.m2,hmap (.inr (.inr (.inr (.inr (.inl rfl))))) hI.m3,hI.ne,fun g hg'=>?_,hI.mm⟩
    . rw [hwe]
      refine setRow_other fun e=>?_
      rcases hv2 g hg' with h|h
      . exact (hI.nv g h).2 e
      . omega
    . rcases Nat.lt_or_ge j us.length with hj|hj
      . rw [List.getElem?_append_left hj] at hx
        have hxl:(s.xs++[c])[j]? = some l:=hxl
        rw [List.getElem?_append_left (by omega)] at hxl
        exact RepC.mono hst _ _ _ (hreps j x l hx hxl)
      . rw [List.getElem?_append_right hj] at hx
        have hxl:(s.xs++[c])[j]? = some l:=hxl
        rw [List.getElem?_append_right (by omega)] at hxl
        have:j - us.length=0:=by
          rcases Nat.eq_zero_or_pos (j - us.length) with h|h
          . exact h
          . rw [List.getElem?_eq_none (by simp;omega)] at hx;cases hx
        rw [this] at hx
        rw [<- hul,this] at hxl
        cases hx;cases hxl
        exact RepC.mono hst _ _ _ hrep9
    . rcases hv2 g hg' with h|h
      . exact hI.nv g h
      . exact ⟨by show g≠s.b4;omega,by show g≠s.b6;omega⟩
  have hfr3:Fr (fun k=>k<w.heap.size/\¬ HB.hb (show HB.σ from s) w k) w we:=by
    refine ⟨?_,?_,?_,?_,fun k hk=>hold k hk.1 (hnb k hk.2).1 (hnb k hk.2).2⟩
    . rw [hwe];show wd.os=w.os;rw [hgrd.os,hbc.os]
    . rw [hwe];show wd.tape=w.tape;rw [hgrd.tape,hbc.tape]
    . rw [hwe];show wd.output=w.output;rw [hgrd.output,hbc.output]
    . omega
  have hbs:∀ b,hbB (s.add v2 c) b->hbB s b\/w.heap.size<=b:=fun b hb=>by
    rcases hb with h|h|h|h|h|h
    . exact .inl (.inl h)
    . exact .inl (.inr (.inl h))
    . exact .inl (.inr (.inr (.inl h)))
    . exact .inl (.inr (.inr (.inr (.inl h))))
    . exact .inl (.inr (.inr (.inr (.inr (.inl h)))))
    . rcases hv2 b h with h|h
      . exact .inl (.inr (.inr (.inr (.inr (.inr h)))))
      . exact .inr (by omega)
  obtain ⟨f1,f2⟩:=hG.grow (s':=(show HB.σ from s.add v2 c)) (M':=M') (w':=we) hfr3 hI' (fun b o h=>by rw [hM'];exact .inr (.inl h)) (fun b o h=>by rw [hM'] at h;exact h) hbs fun b hb o=>by
    rw [hM']
    rcases hbs b hb with h|h
    . exact .inl ((hG.2.2 b h).2.1 o)
    . exact .inr ⟨h,HB.lt _ _ _ b hI' hb⟩
  have hcn:ConcH HB F M0 w0 (show HB.σ from s.add v2 c) st a we:=⟨hfr.trans f1,M',f2⟩
  exact hQ v2 _ _ (ha6 ▸ free_put (ha5 ▸ free_put (ha4 ▸ free_put (ha3 ▸ free_put (ha2 ▸ free_put (ha1 ▸ free_put hcn (hu 40 (by omega) (by omega)) _) (hu 41 (by omega) (by omega)) _) (hu 42 (by omega) (by omega)) _) (hu 43 (by omega) (by omega)) _) (hu 44 (by omega) (by omega)) _) (hu 45 (by omega) (by omega)) _)
theorem s16_wp (hc:ConcH HB F M0 w0 s st a w) (hl:st.length=79) (h6:get st 6 = .d .raw (ptrV s.b6)) (hu:∀ d,53<=d->d<=57->get st d = .und) {x y:Int} (h10:tm a 10 = .int .i64 x) (h11:tm a 11 = .int .i64 y) (hx:rng x=true) (hy:rng y=true)
    (hQ:∀ a' w',ConcH HB F M0 w0 s st a' w'->(∀ j,j<53->tm a' j=tm a j)->Q .normal a' w'):(Code.region 16 r56_16 false).wpIn (fen ro) n Try.prog Q a w:=by
  have t6:tm a 6=ptrV s.b6:=cell_raw hc h6
  have hsz:=conc_size hc hl
  obtain ⟨M,hI⟩:=conc_IB hc
  refine wpIn_region ?_
  rw [show r56_16.size=6 by kernel_rfl]
  show wpOpsIn (fen ro) n Try.prog r56_16 _ [0,1,2,3,4,5] a w
  obtain ⟨o0,i0,d0,p0,q0⟩:=infoAt info56_16 (i:=0) rfl
  simp only at d0 p0 q0
  rw [wpOpsIn_cons]
  refine opr_value i0 (wanted_none q0) (fun c h=>by rw [p0] at h;cases h) (ex_field98 (k:=2) (off:=3) (.inr (.inl ⟨rfl,rfl⟩)) p0 t6) ?_
  rw [d0]
  obtain ⟨a1,ha1⟩:∃ bb:Act,bb=Act.put a (some 53) (.pointer (some ⟨s.b6,0+3,none⟩)):=⟨_,rfl⟩
  rw [<- ha1]
  have z1:a1.tmps.size=79:=by rw [ha1,size_put];exact hsz
  have t1_53:tm a1 53 = .pointer (some ⟨s.b6,0+3,none⟩):=by rw [ha1];exact tm_put_same (by omega)
  obtain ⟨o1,i1,d1,p1,q1⟩:=infoAt info56_16 (i:=1) rfl
  simp only at d1 p1 q1
  rw [wpOpsIn_cons]
  refine opr_value i1 (wanted_none q1) (fun c h=>by rw [p1] at h;cases h) (ex_loadAt (v:=.map (some s.m1)) (T:=55) (t:=.opq) (by kernel_rfl) rfl rfl p1 (b:=s.b6) (j:=0+3) t1_53 hI.h6 rfl) ?_
  rw [d1]
  obtain ⟨a2,ha2⟩:∃ bb:Act,bb=Act.put a1 (some 54) (.map (some s.m1)):=⟨_,rfl⟩
  rw [<- ha2]
  have z2:a2.tmps.size=79:=by rw [ha2,size_put];exact z1
  have t1_10:tm a1 10 = .int .i64 x:=by rw [ha1,tm_put_other (by omega)];exact h10
  have t2_10:tm a2 10 = .int .i64 x:=by rw [ha2,tm_put_other (by omega)];exact t1_10
  obtain ⟨o2,i2,d2,p2,q2⟩:=infoAt info56_16 (i:=2) rfl
  simp only at d2 p2 q2
  rw [wpOpsIn_cons]
  refine opr_value i2 (wanted_none q2) (fun c h=>by rw [p2] at h;cases h) (ex_move p2) ?_
  rw [d2,t2_10]
  obtain ⟨a3,ha3⟩:∃ bb:Act,bb=Act.put a2 (some 55) (.int .i64 x):=⟨_,rfl⟩
  rw [<- ha3]
  have z3:a3.tmps.size=79:=by rw [ha3,size_put];exact z2
  have t1_11:tm a1 11 = .int .i64 y:=by rw [ha1,tm_put_other (by omega)];exact h11
  have t2_11:tm a2 11 = .int .i64 y:=by rw [ha2,tm_put_other (by omega)];exact t1_11
  have t3_11:tm a3 11 = .int .i64 y:=by rw [ha3,tm_put_other (by omega)];exact t2_11
  obtain ⟨o3,i3,d3,p3,q3⟩:=infoAt info56_16 (i:=3) rfl
  simp only at d3 p3 q3
  rw [wpOpsIn_cons]
  refine opr_value i3 (wanted_none q3) (fun c h=>by rw [p3] at h;cases h) (ex_move p3) ?_
  rw [d3,t3_11]
  obtain ⟨a4,ha4⟩:∃ bb:Act,bb=Act.put a3 (some 56) (.int .i64 y):=⟨_,rfl⟩
  rw [<- ha4]
  have z4:a4.tmps.size=79:=by rw [ha4,size_put];exact z3
  have t3_55:tm a3 55 = .int .i64 x:=by rw [ha3];exact tm_put_same (by omega)
  have t4_55:tm a4 55 = .int .i64 x:=by rw [ha4,tm_put_other (by omega)];exact t3_55
  have t4_56:tm a4 56 = .int .i64 y:=by rw [ha4];exact tm_put_same (by omega)
  obtain ⟨o4,i4,d4,p4,q4⟩:=infoAt info56_16 (i:=4) rfl
  simp only at d4 p4 q4
  rw [wpOpsIn_cons]
  refine opr_value i4 (wanted_none q4) (fun c h=>by rw [p4] at h;cases h) (ex_build130 p4 t4_55 t4_56) ?_
  rw [d4]
  obtain ⟨a5,ha5⟩:∃ bb:Act,bb=Act.put a4 (some 57) (pairV x y):=⟨_,rfl⟩
  rw [<- ha5]
  have z5:a5.tmps.size=79:=by rw [ha5,size_put];exact z4
  obtain ⟨es,cl,e1,e2⟩:=hI.m1
  obtain ⟨es2,cl2,e3,e4⟩:=map_put und95 keyP e1 e2 ⟨x,y,hx,hy,rfl⟩ ⟨true,rfl⟩
  have t2_54:tm a2 54 = .map (some s.m1):=by rw [ha2];exact tm_put_same (by omega)
  have t3_54:tm a3 54 = .map (some s.m1):=by rw [ha3,tm_put_other (by omega)];exact t2_54
  have t4_54:tm a4 54 = .map (some s.m1):=by rw [ha4,tm_put_other (by omega)];exact t3_54
  have t5_54:tm a5 54 = .map (some s.m1):=by rw [ha5,tm_put_other (by omega)];exact t4_54
  have t5_57:tm a5 57=pairV x y:=by rw [ha5];exact tm_put_same (by omega)
  obtain ⟨o5,i5,d5,p5,q5⟩:=infoAt info56_16 (i:=5) rfl
  simp only at d5 p5 q5
  rw [wpOpsIn_cons]
  refine opr_skipped i5 (wanted_none q5) (fun c h=>by rw [p5] at h;cases h) (ex_put p5 t5_54 t5_57 rfl e3) ?_
  rw [d5,put_none]
  refine hQ _ _ ?_ (fun j hj=>by rw [ha5,tm_put_other (by omega),ha4,tm_put_other (by omega),ha3,tm_put_other (by omega),ha2,tm_put_other (by omega),ha1,tm_put_other (by omega)])
  have hcn:ConcH HB F M0 w0 s st a (w.putObj s.m1 (.map es2 cl2)):=conc_map hc (.inl rfl) (fun _=>e4) (fun e=>absurd e hI.mm.1) (fun e=>absurd e hI.mm.2.1)
  exact (ha5 ▸ free_put (ha4 ▸ free_put (ha3 ▸ free_put (ha2 ▸ free_put (ha1 ▸ free_put hcn (hu 53 (by omega) (by omega)) _) (hu 54 (by omega) (by omega)) _) (hu 55 (by omega) (by omega)) _) (hu 56 (by omega) (by omega)) _) (hu 57 (by omega) (by omega)) _)
theorem ex_load91 {a:Act} {w:World} {o:Oper} (ho:o.op = .load 83 (.tmp 7)) {b j:Nat} {u:Value} (ht:tm a 7 = .pointer (some ⟨b,j,none⟩)) (hc:w.cell? ⟨b,j,none⟩=some u):(execOp a.eval o).run Try.prog w = .ok (.value u) w :=
  ex_loadC (t:=.opq) (by kernel_rfl) ho ht rfl rfl hc
theorem s17_wp (hc:ConcH HB F M0 w0 s st a w) (hl:st.length=79) (h6:get st 6 = .d .raw (ptrV s.b6)) (hu:∀ d,58<=d->d<=71->get st d = .und) {x y:Int} (h10:tm a 10 = .int .i64 x) (h11:tm a 11 = .int .i64 y) (hx:rng x=true) (hy:rng y=true)
    (hQ:∀ a' w',ConcH HB F M0 w0 s st a' w'->(∀ j,j<58->tm a' j=tm a j)->Q .normal a' w') (h7:get st 7 = .ref .raw (.map (some s.m3))):(Code.region 17 r56_17 false).wpIn (fen ro) n Try.prog Q a w:=by
  have t6:tm a 6=ptrV s.b6:=cell_raw hc h6
  have hsz:=conc_size hc hl
  obtain ⟨M,hI⟩:=conc_IB hc
  obtain ⟨b7,o7,h7p,h7c⟩:∃ b o,tm a 7 = .pointer (some ⟨b,o,none⟩)/\w.cell? ⟨b,o,none⟩=some (.map (some s.m3)):=by
    obtain ⟨_,M,hG⟩:=hc
    have s7:=hG.2.1.slot 7
    rw [h7] at s7
    obtain ⟨b,o,cs,e1,e2,e3,e4⟩:=s7
    have e5:=e4.1
    subst e5
    exact ⟨b,o,e1,(e3 0 (by show 0<1;omega)).1⟩
  refine wpIn_region ?_
  rw [show r56_17.size=15 by kernel_rfl]
  show wpOpsIn (fen ro) n Try.prog r56_17 _ [0,1,2,3,4,5,6,7,8,9,10,11,12,13,14] a w
  obtain ⟨o0,i0,d0,p0,q0⟩:=infoAt info56_17 (i:=0) rfl
  simp only at d0 p0 q0
  rw [wpOpsIn_cons]
  refine opr_value i0 (wanted_none q0) (fun c h=>by rw [p0] at h;cases h) (ex_field98 (k:=3) (off:=4) (.inr (.inr ⟨rfl,rfl⟩)) p0 t6) ?_
  rw [d0]
  obtain ⟨a1,ha1⟩:∃ bb:Act,bb=Act.put a (some 58) (.pointer (some ⟨s.b6,0+4,none⟩)):=⟨_,rfl⟩
  rw [<- ha1]
  have z1:a1.tmps.size=79:=by rw [ha1,size_put];exact hsz
  have t1_58:tm a1 58 = .pointer (some ⟨s.b6,0+4,none⟩):=by rw [ha1];exact tm_put_same (by omega)
  obtain ⟨o1,i1,d1,p1,q1⟩:=infoAt info56_17 (i:=1) rfl
  simp only at d1 p1 q1
  rw [wpOpsIn_cons]
  refine opr_value i1 (wanted_none q1) (fun c h=>by rw [p1] at h;cases h) (ex_loadAt (v:=.map (some s.m2)) (T:=56) (t:=.opq) (by kernel_rfl) rfl rfl p1 (b:=s.b6) (j:=0+4) t1_58 hI.h6 rfl) ?_
  rw [d1]
  obtain ⟨a2,ha2⟩:∃ bb:Act,bb=Act.put a1 (some 59) (.map (some s.m2)):=⟨_,rfl⟩
  rw [<- ha2]
  have z2:a2.tmps.size=79:=by rw [ha2,size_put];exact z1
  have t1_10:tm a1 10 = .int .i64 x:=by rw [ha1,tm_put_other (by omega)];exact h10
  have t2_10:tm a2 10 = .int .i64 x:=by rw [ha2,tm_put_other (by omega)];exact t1_10
  obtain ⟨o2,i2,d2,p2,q2⟩:=infoAt info56_17 (i:=2) rfl
  simp only at d2 p2 q2
  rw [wpOpsIn_cons]
  refine opr_value i2 (wanted_none q2) (fun c h=>by rw [p2] at h;cases h) (ex_move p2) ?_
  rw [d2,t2_10]
  obtain ⟨a3,ha3⟩:∃ bb:Act,bb=Act.put a2 (some 60) (.int .i64 x):=⟨_,rfl⟩
  rw [<- ha3]
  have z3:a3.tmps.size=79:=by rw [ha3,size_put];exact z2
  have t1_6:tm a1 6 = .pointer (some ⟨s.b6,0,none⟩):=by rw [ha1,tm_put_other (by omega)];exact t6
  have t2_6:tm a2 6 = .pointer (some ⟨s.b6,0,none⟩):=by rw [ha2,tm_put_other (by omega)];exact t1_6
  have t3_6:tm a3 6 = .pointer (some ⟨s.b6,0,none⟩):=by rw [ha3,tm_put_other (by omega)];exact t2_6
  obtain ⟨o3,i3,d3,p3,q3⟩:=infoAt info56_17 (i:=3) rfl
  simp only at d3 p3 q3
  rw [wpOpsIn_cons]
  refine opr_value i3 (wanted_none q3) (fun c h=>by rw [p3] at h;cases h) (ex_field98 (k:=3) (off:=4) (.inr (.inr ⟨rfl,rfl⟩)) p3 t3_6) ?_
  rw [d3]
  obtain ⟨a4,ha4⟩:∃ bb:Act,bb=Act.put a3 (some 61) (.pointer (some ⟨s.b6,0+4,none⟩)):=⟨_,rfl⟩
  rw [<- ha4]
  have z4:a4.tmps.size=79:=by rw [ha4,size_put];exact z3
  have t4_61:tm a4 61 = .pointer (some ⟨s.b6,0+4,none⟩):=by rw [ha4];exact tm_put_same (by omega)
  obtain ⟨o4,i4,d4,p4,q4⟩:=infoAt info56_17 (i:=4) rfl
  simp only at d4 p4 q4
  rw [wpOpsIn_cons]
  refine opr_value i4 (wanted_none q4) (fun c h=>by rw [p4] at h;cases h) (ex_loadAt (v:=.map (some s.m2)) (T:=56) (t:=.opq) (by kernel_rfl) rfl rfl p4 (b:=s.b6) (j:=0+4) t4_61 hI.h6 rfl) ?_
  rw [d4]
  obtain ⟨a5,ha5⟩:∃ bb:Act,bb=Act.put a4 (some 62) (.map (some s.m2)):=⟨_,rfl⟩
  rw [<- ha5]
  have z5:a5.tmps.size=79:=by rw [ha5,size_put];exact z4
  have t3_10:tm a3 10 = .int .i64 x:=by rw [ha3,tm_put_other (by omega)];exact t2_10
  have t4_10:tm a4 10 = .int .i64 x:=by rw [ha4,tm_put_other (by omega)];exact t3_10
  have t5_10:tm a5 10 = .int .i64 x:=by rw [ha5,tm_put_other (by omega)];exact t4_10
  obtain ⟨o5,i5,d5,p5,q5⟩:=infoAt info56_17 (i:=5) rfl
  simp only at d5 p5 q5
  rw [wpOpsIn_cons]
  refine opr_value i5 (wanted_none q5) (fun c h=>by rw [p5] at h;cases h) (ex_move p5) ?_
  rw [d5,t5_10]
  obtain ⟨a6,ha6⟩:∃ bb:Act,bb=Act.put a5 (some 63) (.int .i64 x):=⟨_,rfl⟩
  rw [<- ha6]
  have z6:a6.tmps.size=79:=by rw [ha6,size_put];exact z5
  obtain ⟨es,cl,e1,e2⟩:=hI.m2
  obtain ⟨_,⟨b,rfl⟩,hlook⟩:=map_look und96 zero4 keyI ⟨false,rfl⟩ e1 e2 ⟨x,hx,rfl⟩
  have t5_62:tm a5 62 = .map (some s.m2):=by rw [ha5];exact tm_put_same (by omega)
  have t6_62:tm a6 62 = .map (some s.m2):=by rw [ha6,tm_put_other (by omega)];exact t5_62
  have t6_63:tm a6 63 = .int .i64 x:=by rw [ha6];exact tm_put_same (by omega)
  obtain ⟨o6,i6,d6,p6,q6⟩:=infoAt info56_17 (i:=6) rfl
  simp only at d6 p6 q6
  rw [wpOpsIn_cons]
  refine opr_value i6 (wanted_none q6) (fun c h=>by rw [p6] at h;cases h) (ex_look p6 t6_62 t6_63 hlook) ?_
  rw [d6]
  obtain ⟨a7,ha7⟩:∃ bb:Act,bb=Act.put a6 (some 64) (.bool b):=⟨_,rfl⟩
  rw [<- ha7]
  have z7:a7.tmps.size=79:=by rw [ha7,size_put];exact z6
  have t7_64:tm a7 64 = .bool b:=by rw [ha7];exact tm_put_same (by omega)
  obtain ⟨o7,i7,d7,p7,q7⟩:=infoAt info56_17 (i:=7) rfl
  simp only at d7 p7 q7
  rw [wpOpsIn_cons]
  refine opr_value i7 (wanted_none q7) (fun c h=>by rw [p7] at h;cases h) (ex_move p7) ?_
  rw [d7,t7_64]
  obtain ⟨a8,ha8⟩:∃ bb:Act,bb=Act.put a7 (some 65) (.bool b):=⟨_,rfl⟩
  rw [<- ha8]
  have z8:a8.tmps.size=79:=by rw [ha8,size_put];exact z7
  have t2_59:tm a2 59 = .map (some s.m2):=by rw [ha2];exact tm_put_same (by omega)
  have t3_59:tm a3 59 = .map (some s.m2):=by rw [ha3,tm_put_other (by omega)];exact t2_59
  have t4_59:tm a4 59 = .map (some s.m2):=by rw [ha4,tm_put_other (by omega)];exact t3_59
  have t5_59:tm a5 59 = .map (some s.m2):=by rw [ha5,tm_put_other (by omega)];exact t4_59
  have t6_59:tm a6 59 = .map (some s.m2):=by rw [ha6,tm_put_other (by omega)];exact t5_59
  have t7_59:tm a7 59 = .map (some s.m2):=by rw [ha7,tm_put_other (by omega)];exact t6_59
  have t8_59:tm a8 59 = .map (some s.m2):=by rw [ha8,tm_put_other (by omega)];exact t7_59
  have t3_60:tm a3 60 = .int .i64 x:=by rw [ha3];exact tm_put_same (by omega)
  have t4_60:tm a4 60 = .int .i64 x:=by rw [ha4,tm_put_other (by omega)];exact t3_60
  have t5_60:tm a5 60 = .int .i64 x:=by rw [ha5,tm_put_other (by omega)];exact t4_60
  have t6_60:tm a6 60 = .int .i64 x:=by rw [ha6,tm_put_other (by omega)];exact t5_60
  have t7_60:tm a7 60 = .int .i64 x:=by rw [ha7,tm_put_other (by omega)];exact t6_60
  have t8_60:tm a8 60 = .int .i64 x:=by rw [ha8,tm_put_other (by omega)];exact t7_60
  have t8_65:tm a8 65 = .bool b:=by rw [ha8];exact tm_put_same (by omega)
  have fin:∀ (b':Bool) (a2:Act),a2.tmps.size=79->tm a2 59 = .map (some s.m2)->tm a2 60 = .int .i64 x->tm a2 65 = .bool b->(b=false->tm a2 70 = .bool b')->ConcH HB F M0 w0 s st a2 w->(∀ j,j<58->tm a2 j=tm a j)->wpOpsIn (fen ro) n Try.prog r56_17 Q [13,14] a2 w:=by
    intro b' a2 z2 f59 f60 f65 f70 hc2 hk2
    obtain ⟨of13,if13,df13,pf13,qf13⟩:=infoAt info56_17 (i:=13) rfl
    simp only at df13 pf13 qf13
    rw [wpOpsIn_cons]
    refine opr_value if13 (wanted_none qf13) (fun c h=>by rw [pf13] at h;cases h) (ex_pickT pf13 f65 f70) ?_
    rw [df13]
    obtain ⟨af1,haf1⟩:∃ bb:Act,bb=Act.put a2 (some 71) (if b then .bool true else .bool b'):=⟨_,rfl⟩
    rw [<- haf1]
    have zf1:af1.tmps.size=79:=by rw [haf1,size_put];exact z2
    obtain ⟨b3,hb3⟩:∃ b3,(if b then Value.bool true else .bool b') = .bool b3:=by cases b<;>exact ⟨_,rfl⟩
    obtain ⟨es2,cl2,e3,e4⟩:=map_put und96 keyI e1 e2 ⟨x,hx,rfl⟩ (⟨b3,hb3⟩:vpB _)
    have tf1_71:tm af1 71=if b then .bool true else .bool b':=by rw [haf1];exact tm_put_same (by omega)
    have tf1_59:tm af1 59 = .map (some s.m2):=by rw [haf1,tm_put_other (by omega)];exact f59
    have tf1_60:tm af1 60 = .int .i64 x:=by rw [haf1,tm_put_other (by omega)];exact f60
    obtain ⟨of14,if14,df14,pf14,qf14⟩:=infoAt info56_17 (i:=14) rfl
    simp only at df14 pf14 qf14
    rw [wpOpsIn_cons]
    refine opr_skipped if14 (wanted_none qf14) (fun c h=>by rw [pf14] at h;cases h) (ex_put pf14 tf1_59 tf1_60 tf1_71 e3) ?_
    rw [df14,put_none]
    refine hQ _ _ ?_ fun j hj=>by rw [haf1,tm_put_other (by omega)];exact hk2 j hj
    have hcn:ConcH HB F M0 w0 s st a2 (w.putObj s.m2 (.map es2 cl2)):=conc_map hc2 (.inr (.inl rfl)) (fun e=>absurd e.symm hI.mm.1) (fun _=>e4) (fun e=>absurd e hI.mm.2.2)
    exact (haf1 ▸ free_put hcn (hu 71 (by omega) (by omega)) _)
  have hca:ConcH HB F M0 w0 s st a8 w:=(ha8 ▸ free_put (ha7 ▸ free_put (ha6 ▸ free_put (ha5 ▸ free_put (ha4 ▸ free_put (ha3 ▸ free_put (ha2 ▸ free_put (ha1 ▸ free_put hc (hu 58 (by omega) (by omega)) _) (hu 59 (by omega) (by omega)) _) (hu 60 (by omega) (by omega)) _) (hu 61 (by omega) (by omega)) _) (hu 62 (by omega) (by omega)) _) (hu 63 (by omega) (by omega)) _) (hu 64 (by omega) (by omega)) _) (hu 65 (by omega) (by omega)) _)
  have hka:∀ j,j<58->tm a8 j=tm a j:=fun j hj=>by rw [ha8,tm_put_other (by omega),ha7,tm_put_other (by omega),ha6,tm_put_other (by omega),ha5,tm_put_other (by omega),ha4,tm_put_other (by omega),ha3,tm_put_other (by omega),ha2,tm_put_other (by omega),ha1,tm_put_other (by omega)]
  have hbd:∀ {d:Nat} {v:Value} {b2:Act},b2=Act.put a8 (some d) v->66<=d->True:=fun _ _=>trivial
  obtain ⟨o8,i8,d8,p8,q8⟩:=infoAt info56_17 (i:=8) rfl
  simp only at d8 p8 q8
  obtain ⟨o9,i9,d9,p9,q9⟩:=infoAt info56_17 (i:=9) rfl
  simp only at d9 p9 q9
  obtain ⟨o10,i10,d10,p10,q10⟩:=infoAt info56_17 (i:=10) rfl
  simp only at d10 p10 q10
  obtain ⟨o11,i11,d11,p11,q11⟩:=infoAt info56_17 (i:=11) rfl
  simp only at d11 p11 q11
  obtain ⟨o12,i12,d12,p12,q12⟩:=infoAt info56_17 (i:=12) rfl
  simp only at d12 p12 q12
  obtain ⟨o7x,i7x,d7x,p7x,q7x⟩:=infoAt info56_17 (i:=7) rfl
  simp only at d7x p7x q7x
  have hdst:(r56_17[7]?).bind (·.dst)=some 65:=by rw [i7x];exact d7x
  cases b with
  | true =>
    have W:∀ (a2:Act),65<a2.tmps.size->tm a2 65 = .bool true->∀ o:Oper,o.guard=some (7,false)->Region.wanted o (yielded r56_17 a2.tmps)=false:=fun a2 h1 h2 o ho=>wanted_some ho hdst h1 h2
    rw [wpOpsIn_cons]
    refine opr_skip i8 (W _ (by omega) t8_65 _ q8) ?_
    rw [d8]
    obtain ⟨b1,hb1⟩:∃ bb:Act,bb=Act.put a8 (some 66) undef:=⟨_,rfl⟩
    rw [<- hb1]
    have zb1:b1.tmps.size=79:=by rw [hb1,size_put];exact z8
    have tb1:tm b1 65 = .bool true:=by rw [hb1,tm_put_other (by omega)];exact t8_65
    rw [wpOpsIn_cons]
    refine opr_skip i9 (W _ (by omega) tb1 _ q9) ?_
    rw [d9]
    obtain ⟨b2,hb2⟩:∃ bb:Act,bb=Act.put b1 (some 67) undef:=⟨_,rfl⟩
    rw [<- hb2]
    have zb2:b2.tmps.size=79:=by rw [hb2,size_put];exact zb1
    have tb2:tm b2 65 = .bool true:=by rw [hb2,tm_put_other (by omega)];exact tb1
    rw [wpOpsIn_cons]
    refine opr_skip i10 (W _ (by omega) tb2 _ q10) ?_
    rw [d10]
    obtain ⟨b3,hb3⟩:∃ bb:Act,bb=Act.put b2 (some 68) undef:=⟨_,rfl⟩
    rw [<- hb3]
    have zb3:b3.tmps.size=79:=by rw [hb3,size_put];exact zb2
    have tb3:tm b3 65 = .bool true:=by rw [hb3,tm_put_other (by omega)];exact tb2
    rw [wpOpsIn_cons]
    refine opr_skip i11 (W _ (by omega) tb3 _ q11) ?_
    rw [d11]
    obtain ⟨b4,hb4⟩:∃ bb:Act,bb=Act.put b3 (some 69) undef:=⟨_,rfl⟩
    rw [<- hb4]
    have zb4:b4.tmps.size=79:=by rw [hb4,size_put];exact zb3
    have tb4:tm b4 65 = .bool true:=by rw [hb4,tm_put_other (by omega)];exact tb3
    rw [wpOpsIn_cons]
    refine opr_skip i12 (W _ (by omega) tb4 _ q12) ?_
    rw [d12]
    obtain ⟨b5,hb5⟩:∃ bb:Act,bb=Act.put b4 (some 70) undef:=⟨_,rfl⟩
    rw [<- hb5]
    have zb5:b5.tmps.size=79:=by rw [hb5,size_put];exact zb4
    have tb5:tm b5 65 = .bool true:=by rw [hb5,tm_put_other (by omega)];exact tb4
    exact fin true b5 zb5 (by rw [hb5,tm_put_other (by omega),hb4,tm_put_other (by omega),hb3,tm_put_other (by omega),hb2,tm_put_other (by omega),hb1,tm_put_other (by omega)];exact t8_59) (by rw [hb5,tm_put_other (by omega),hb4,tm_put_other (by omega),hb3,tm_put_other (by omega),hb2,tm_put_other (by omega),hb1,tm_put_other (by omega)];exact t8_60) tb5 (fun h=>by cases h) (hb5 ▸ free_put (hb4 ▸ free_put (hb3 ▸ free_put (hb2 ▸ free_put (hb1 ▸ free_put hca (hu 66 (by omega) (by omega)) _) (hu 67 (by omega) (by omega)) _) (hu 68 (by omega) (by omega)) _) (hu 69 (by omega) (by omega)) _) (hu 70 (by omega) (by omega)) _) fun j hj=>by rw [hb5,tm_put_other (by omega),hb4,tm_put_other (by omega),hb3,tm_put_other (by omega),hb2,tm_put_other (by omega),hb1,tm_put_other (by omega)];exact hka j hj
  | false =>
    have W:∀ (a2:Act),65<a2.tmps.size->tm a2 65 = .bool false->∀ o:Oper,o.guard=some (7,false)->Region.wanted o (yielded r56_17 a2.tmps)=true:=fun a2 h1 h2 o ho=>wanted_some ho hdst h1 h2
    obtain ⟨es3,cl3,e5,e6⟩:=hI.m3
    obtain ⟨_,⟨m,rfl⟩,hlook3⟩:=map_look und91 zero3 keyI ⟨0,rfl⟩ e5 e6 ⟨x,hx,rfl⟩
    have t1_11:tm a1 11 = .int .i64 y:=by rw [ha1,tm_put_other (by omega)];exact h11
    have t2_11:tm a2 11 = .int .i64 y:=by rw [ha2,tm_put_other (by omega)];exact t1_11
    have t3_11:tm a3 11 = .int .i64 y:=by rw [ha3,tm_put_other (by omega)];exact t2_11
    have t4_11:tm a4 11 = .int .i64 y:=by rw [ha4,tm_put_other (by omega)];exact t3_11
    have t5_11:tm a5 11 = .int .i64 y:=by rw [ha5,tm_put_other (by omega)];exact t4_11
    have t6_11:tm a6 11 = .int .i64 y:=by rw [ha6,tm_put_other (by omega)];exact t5_11
    have t7_11:tm a7 11 = .int .i64 y:=by rw [ha7,tm_put_other (by omega)];exact t6_11
    have t8_11:tm a8 11 = .int .i64 y:=by rw [ha8,tm_put_other (by omega)];exact t7_11
    have t6_10:tm a6 10 = .int .i64 x:=by rw [ha6,tm_put_other (by omega)];exact t5_10
    have t7_10:tm a7 10 = .int .i64 x:=by rw [ha7,tm_put_other (by omega)];exact t6_10
    have t8_10:tm a8 10 = .int .i64 x:=by rw [ha8,tm_put_other (by omega)];exact t7_10
    rw [wpOpsIn_cons]
    refine opr_value i8 (W _ (by omega) t8_65 _ q8) (fun c h=>by rw [p8] at h;cases h) (ex_move p8) ?_
    rw [d8,t8_11]
    obtain ⟨b1,hb1⟩:∃ bb:Act,bb=Act.put a8 (some 66) (.int .i64 y):=⟨_,rfl⟩
    rw [<- hb1]
    have zb1:b1.tmps.size=79:=by rw [hb1,size_put];exact z8
    have tb1:tm b1 65 = .bool false:=by rw [hb1,tm_put_other (by omega)];exact t8_65
    have g7:tm b1 7=tm a 7:=by rw [hb1,tm_put_other (by omega)];exact hka 7 (by omega)
    rw [wpOpsIn_cons]
    refine opr_value i9 (W _ (by omega) tb1 _ q9) (fun c h=>by rw [p9] at h;cases h) (ex_load91 p9 (g7.trans h7p) h7c) ?_
    rw [d9]
    obtain ⟨b2,hb2⟩:∃ bb:Act,bb=Act.put b1 (some 67) (.map (some s.m3)):=⟨_,rfl⟩
    rw [<- hb2]
    have zb2:b2.tmps.size=79:=by rw [hb2,size_put];exact zb1
    have tb2:tm b2 65 = .bool false:=by rw [hb2,tm_put_other (by omega)];exact tb1
    have g10:tm b2 10 = .int .i64 x:=by rw [hb2,tm_put_other (by omega),hb1,tm_put_other (by omega)];exact t8_10
    rw [wpOpsIn_cons]
    refine opr_value i10 (W _ (by omega) tb2 _ q10) (fun c h=>by rw [p10] at h;cases h) (ex_move p10) ?_
    rw [d10,g10]
    obtain ⟨b3,hb3⟩:∃ bb:Act,bb=Act.put b2 (some 68) (.int .i64 x):=⟨_,rfl⟩
    rw [<- hb3]
    have zb3:b3.tmps.size=79:=by rw [hb3,size_put];exact zb2
    have tb3:tm b3 65 = .bool false:=by rw [hb3,tm_put_other (by omega)];exact tb2
    have g67:tm b3 67 = .map (some s.m3):=by rw [hb3,tm_put_other (by omega),hb2];exact tm_put_same (by omega)
    have g68:tm b3 68 = .int .i64 x:=by rw [hb3];exact tm_put_same (by omega)
    rw [wpOpsIn_cons]
    refine opr_value i11 (W _ (by omega) tb3 _ q11) (fun c h=>by rw [p11] at h;cases h) (ex_look p11 g67 g68 hlook3) ?_
    rw [d11]
    obtain ⟨b4,hb4⟩:∃ bb:Act,bb=Act.put b3 (some 69) (.int .i64 m):=⟨_,rfl⟩
    rw [<- hb4]
    have zb4:b4.tmps.size=79:=by rw [hb4,size_put];exact zb3
    have tb4:tm b4 65 = .bool false:=by rw [hb4,tm_put_other (by omega)];exact tb3
    have g66:tm b4 66 = .int .i64 y:=by rw [hb4,tm_put_other (by omega),hb3,tm_put_other (by omega),hb2,tm_put_other (by omega),hb1];exact tm_put_same (by omega)
    have g69:tm b4 69 = .int .i64 m:=by rw [hb4];exact tm_put_same (by omega)
    obtain ⟨b9,hb9⟩:=ex_eqlI (a:=b4) (w:=w) p12 g66 g69
    rw [wpOpsIn_cons]
    refine opr_value i12 (W _ (by omega) tb4 _ q12) (fun c h=>by rw [p12] at h;cases h) (hb9) ?_
    rw [d12]
    obtain ⟨b5,hb5⟩:∃ bb:Act,bb=Act.put b4 (some 70) (.bool b9):=⟨_,rfl⟩
    rw [<- hb5]
    have zb5:b5.tmps.size=79:=by rw [hb5,size_put];exact zb4
    have tb5:tm b5 65 = .bool false:=by rw [hb5,tm_put_other (by omega)];exact tb4
    exact fin b9 b5 zb5 (by rw [hb5,tm_put_other (by omega),hb4,tm_put_other (by omega),hb3,tm_put_other (by omega),hb2,tm_put_other (by omega),hb1,tm_put_other (by omega)];exact t8_59) (by rw [hb5,tm_put_other (by omega),hb4,tm_put_other (by omega),hb3,tm_put_other (by omega),hb2,tm_put_other (by omega),hb1,tm_put_other (by omega)];exact t8_60) tb5 (fun _=>by rw [hb5];exact tm_put_same (by omega)) (hb5 ▸ free_put (hb4 ▸ free_put (hb3 ▸ free_put (hb2 ▸ free_put (hb1 ▸ free_put hca (hu 66 (by omega) (by omega)) _) (hu 67 (by omega) (by omega)) _) (hu 68 (by omega) (by omega)) _) (hu 69 (by omega) (by omega)) _) (hu 70 (by omega) (by omega)) _) fun j hj=>by rw [hb5,tm_put_other (by omega),hb4,tm_put_other (by omega),hb3,tm_put_other (by omega),hb2,tm_put_other (by omega),hb1,tm_put_other (by omega)];exact hka j hj
end
end Go.V
namespace Go.V
open Go.Proofs
open Go.RowKit (Below)
noncomputable def lb56:Code:=.seq (.region 14 r56_14 false) (.seq (.cond (.tmp 49) .skip (.exit 4)) (.seq (.block 5 (.seq (.region 15 r56_15 false) (.seq (.region 16 r56_16 false) (.region 17 r56_17 false)))) (.region 18 r56_18 false)))
theorem round56_eq:round56 = .block 3 (.seq (.region 12 r56_12 false) (.seq (.region 13 r56_13 false) (.block 4 (.loop lb56)))):=by kernel_rfl
theorem ex_moveC {a:Act} {w:World} {o:Oper} {v:Value} (ho:o.op = .move (.const v)):(execOp a.eval o).run Try.prog w = .ok (.value v) w:=by
  simp [execOp,ho,Act.eval]
section
variable {ro : Option Nat} {n : Nat} {Q : Exit → Act → World → Prop} {F : Nat → Prop} {M0 : Base} {w0 : World} {s : SB} {st : St} {a : Act} {w : World} {c : List Int}
theorem list_is (hc:ConcH HB F M0 w0 s st a w) {j:Nat} (h:get st j = .d (.list (.int .i64)) c):∃ ad cap,tm a j = .slice ad c.length cap/\∀ i (hi:i<c.length),∃ b o,ad=some ⟨b,o,none⟩/\w.cell? ⟨b,o+i,none⟩=some (.int .i64 c[i]):=by
  obtain ⟨hf,M,hG⟩:=hc
  have s1:=hG.2.1.slot j
  rw [h] at s1
  obtain ⟨_,ad,cap,e1,e2,e3⟩:=repV_slice (e:=.int .i64) (show RepV M w (.list (.int .i64)) (tm a j) c from s1)
  simp only [List.cons.injEq,and_true] at e1
  refine ⟨ad,cap,e1,fun i hi=>?_⟩
  obtain ⟨b,off,ec,g1,g2,g3,g4⟩:=e3 i hi
  have g4:ec=[.int .i64 c[i]]:=g4
  subst g4
  have:=(g3 0 (by simp)).1
  refine ⟨b,off,g1,?_⟩
  rw [show off+i=off+i * (Ty.int IntKind.i64).size+0 by simp [Ty.size]]
  exact this
theorem wr {x:Int} (h1 : -9223372036854775808<=x) (h2:x<=9223372036854775807):IntKind.i64.wrap x=x:=by
  unfold IntKind.wrap
  simp only [IntKind.bits,IntKind.signed]
  simp
  split<;>omega
theorem wrap_small {i:Nat} (h:i<1000000):IntKind.i64.wrap ((i:Int)+1)=((i+1:Nat):Int):=by
  have:IntKind.i64.wrap ((i:Int)+1)=(i:Int)+1:=wr (by omega) (by omega)
  rw [this];omega
theorem rng_small {i:Nat} (h:i<1000000):rng (i:Int)=true:=by
  simp only [rng,Bool.and_eq_true,decide_eq_true_eq]
  omega
structure Lp (F:Nat->Prop) (M0:Base) (w0:World) (s:SB) (st:St) (c:List Int) (i:Nat) (a:Act) (w:World):Prop where
  conc:ConcH HB F M0 w0 s st a w
  t46:tm a 46=tm a 9
  t47:tm a 47 = .int .i64 (c.length:Int)
  t48:tm a 48 = .int .i64 (i:Int)
variable (hl : st.length = 79) (h6 : get st 6 = .d .raw (ptrV s.b6)) (h7 : get st 7 = .ref .raw (.map (some s.m3))) (h9 : get st 9 = .d (.list (.int .i64)) c) (hu : ∀ d, 40 ≤ d → d ≤ 72 → get st d = .und) (hu10 : get st 10 = .und) (hu11 : get st 11 = .und)
include hl h6 h7 h9 hu hu10 hu11
theorem loop56 (hcl:c.length<1000000) (hrg:∀ x∈c,rng x=true) (hQ:∀ a' w',ConcH HB F M0 w0 s st a' w'->Q (.exit 4) a' w'):∀ (m i:Nat) (a:Act) (w:World),i<=c.length->c.length<m+i->Lp F M0 w0 s st c i a w->Code.roundsIn (fen ro) n Try.prog lb56 Q m a w:=by
  intro m
  induction m with
  | zero=>intro i a w h1 h2 h;omega
  | succ m ih =>
    intro i a w hi hm h
    obtain ⟨hc,t46,t47,t48⟩:=h
    have hsz:=conc_size hc hl
    have hud:∀ d,(d=10\/d=11\/(40<=d/\d<=72))->get st d = .und:=fun d hd=>by
      rcases hd with rfl|rfl|hd
      . exact hu10
      . exact hu11
      . exact hu d hd.1 hd.2
    rw [roundsIn_succ,lb56]
    refine wpIn_seq ?_
    refine wpIn_region ?_
    rw [show r56_14.size=1 by kernel_rfl]
    show wpOpsIn (fen ro) n Try.prog r56_14 _ [0] a w
    obtain ⟨ox0,ix0,dx0,px0,qx0⟩:=infoAt info56_14 (i:=0) rfl
    simp only at dx0 px0 qx0
    rw [wpOpsIn_cons]
    refine opr_value ix0 (wanted_none qx0) (fun c h=>by rw [px0] at h;cases h) (ex_lt (T:=3) px0 t48 t47) ?_
    rw [dx0]
    obtain ⟨ax1,hax1⟩:∃ bb:Act,bb=Act.put a (some 49) (.bool (decide ((i:Int)<(c.length:Int)))):=⟨_,rfl⟩
    rw [<- hax1]
    have zx1:ax1.tmps.size=79:=by rw [hax1,size_put];exact hsz
    have tx1_49:tm ax1 49 = .bool (decide ((i:Int)<(c.length:Int))):=by rw [hax1];exact tm_put_same (by omega)
    refine wpIn_seq (wpIn_cond (t:=decide ((i:Int)<(c.length:Int))) tx1_49 ?_)
    have hc1:ConcH HB F M0 w0 s st ax1 w:=(hax1 ▸ free_put hc (hud 49 (by omega)) _)
    have tx1_46:tm ax1 46=tm a 9:=by rw [hax1,tm_put_other (by omega)];exact t46
    have tx1_47:tm ax1 47 = .int .i64 (c.length:Int):=by rw [hax1,tm_put_other (by omega)];exact t47
    have tx1_48:tm ax1 48 = .int .i64 (i:Int):=by rw [hax1,tm_put_other (by omega)];exact t48
    have t1_9:tm ax1 9=tm a 9:=by rw [hax1,tm_put_other (by omega)]
    cases hd:decide ((i:Int)<(c.length:Int)) with
    | false =>
      simp only [Bool.false_eq_true,if_false]
      exact wpIn_exit (hQ _ _ hc1)
    | true =>
    have hlt:i<c.length:=by have:=of_decide_eq_true hd;omega
    simp only [if_true]
    refine wpIn_skip ?_
    obtain ⟨ad,cap,e9,hcells⟩:=list_is hc1 h9
    obtain ⟨gb,off,e10,hcell⟩:=hcells i hlt
    subst e10
    have f46:tm ax1 46 = .slice (some ⟨gb,off,none⟩) c.length cap:=by rw [tx1_46,<- t1_9];exact e9
    refine wpIn_seq (wpIn_block (wpIn_seq ?_))
    refine wpIn_region ?_
    rw [show r56_15.size=5 by kernel_rfl]
    show wpOpsIn (fen ro) n Try.prog r56_15 _ [0,1,2,3,4] ax1 w
    obtain ⟨oy0,iy0,dy0,py0,qy0⟩:=infoAt info56_15 (i:=0) rfl
    simp only at dy0 py0 qy0
    rw [wpOpsIn_cons]
    refine opr_value iy0 (wanted_none qy0) (fun c h=>by rw [py0] at h;cases h) (ex_move py0) ?_
    rw [dy0,tx1_48]
    obtain ⟨ay1,hay1⟩:∃ bb:Act,bb=Act.put ax1 (some 50) (.int .i64 (i:Int)):=⟨_,rfl⟩
    rw [<- hay1]
    have zy1:ay1.tmps.size=79:=by rw [hay1,size_put];exact zx1
    have ty1_46:tm ay1 46 = .slice (some ⟨gb,off,none⟩) c.length cap:=by rw [hay1,tm_put_other (by omega)];exact f46
    have ty1_48:tm ay1 48 = .int .i64 (i:Int):=by rw [hay1,tm_put_other (by omega)];exact tx1_48
    obtain ⟨oy1,iy1,dy1,py1,qy1⟩:=infoAt info56_15 (i:=1) rfl
    simp only at dy1 py1 qy1
    rw [wpOpsIn_cons]
    refine opr_value iy1 (wanted_none qy1) (fun c h=>by rw [py1] at h;cases h) (ex_index (T:=22) (E:=3) (e:=.int .i64) (by kernel_rfl) (by kernel_rfl) rfl py1 ty1_46 ty1_48 (by omega) (by omega)) ?_
    rw [dy1]
    obtain ⟨ay2,hay2⟩:∃ bb:Act,bb=Act.put ay1 (some 51) (.pointer (some ⟨gb,off+(i:Int).toNat,none⟩)):=⟨_,rfl⟩
    rw [<- hay2]
    have zy2:ay2.tmps.size=79:=by rw [hay2,size_put];exact zy1
    have ty2_51:tm ay2 51 = .pointer (some ⟨gb,off+(i:Int).toNat,none⟩):=by rw [hay2];exact tm_put_same (by omega)
    obtain ⟨oy2,iy2,dy2,py2,qy2⟩:=infoAt info56_15 (i:=2) rfl
    simp only at dy2 py2 qy2
    rw [wpOpsIn_cons]
    refine opr_value iy2 (wanted_none qy2) (fun c h=>by rw [py2] at h;cases h) (ex_loadC (t:=.int .i64) (by kernel_rfl) py2 ty2_51 rfl rfl hcell) ?_
    rw [dy2]
    obtain ⟨ay3,hay3⟩:∃ bb:Act,bb=Act.put ay2 (some 52) (.int .i64 (c[i]'hlt)):=⟨_,rfl⟩
    rw [<- hay3]
    have zy3:ay3.tmps.size=79:=by rw [hay3,size_put];exact zy2
    have ty1_50:tm ay1 50 = .int .i64 (i:Int):=by rw [hay1];exact tm_put_same (by omega)
    have ty2_50:tm ay2 50 = .int .i64 (i:Int):=by rw [hay2,tm_put_other (by omega)];exact ty1_50
    have ty3_50:tm ay3 50 = .int .i64 (i:Int):=by rw [hay3,tm_put_other (by omega)];exact ty2_50
    obtain ⟨oy3,iy3,dy3,py3,qy3⟩:=infoAt info56_15 (i:=3) rfl
    simp only at dy3 py3 qy3
    rw [wpOpsIn_cons]
    refine opr_value iy3 (wanted_none qy3) (fun c h=>by rw [py3] at h;cases h) (ex_assign py3) ?_
    rw [dy3,ty3_50]
    obtain ⟨ay4,hay4⟩:∃ bb:Act,bb=Act.put ay3 (some 10) (.int .i64 (i:Int)):=⟨_,rfl⟩
    rw [<- hay4]
    have zy4:ay4.tmps.size=79:=by rw [hay4,size_put];exact zy3
    have ty3_52:tm ay3 52 = .int .i64 (c[i]'hlt):=by rw [hay3];exact tm_put_same (by omega)
    have ty4_52:tm ay4 52 = .int .i64 (c[i]'hlt):=by rw [hay4,tm_put_other (by omega)];exact ty3_52
    obtain ⟨oy4,iy4,dy4,py4,qy4⟩:=infoAt info56_15 (i:=4) rfl
    simp only at dy4 py4 qy4
    rw [wpOpsIn_cons]
    refine opr_value iy4 (wanted_none qy4) (fun c h=>by rw [py4] at h;cases h) (ex_assign py4) ?_
    rw [dy4,ty4_52]
    obtain ⟨ay5,hay5⟩:∃ bb:Act,bb=Act.put ay4 (some 11) (.int .i64 (c[i]'hlt)):=⟨_,rfl⟩
    rw [<- hay5]
    have zy5:ay5.tmps.size=79:=by rw [hay5,size_put];exact zy4
    have ty4_10:tm ay4 10 = .int .i64 (i:Int):=by rw [hay4];exact tm_put_same (by omega)
    have ty5_10:tm ay5 10 = .int .i64 (i:Int):=by rw [hay5,tm_put_other (by omega)];exact ty4_10
    have ty5_11:tm ay5 11 = .int .i64 (c[i]'hlt):=by rw [hay5];exact tm_put_same (by omega)
    have ty2_46:tm ay2 46 = .slice (some ⟨gb,off,none⟩) c.length cap:=by rw [hay2,tm_put_other (by omega)];exact ty1_46
    have ty3_46:tm ay3 46 = .slice (some ⟨gb,off,none⟩) c.length cap:=by rw [hay3,tm_put_other (by omega)];exact ty2_46
    have ty4_46:tm ay4 46 = .slice (some ⟨gb,off,none⟩) c.length cap:=by rw [hay4,tm_put_other (by omega)];exact ty3_46
    have ty5_46:tm ay5 46 = .slice (some ⟨gb,off,none⟩) c.length cap:=by rw [hay5,tm_put_other (by omega)];exact ty4_46
    have ty1_47:tm ay1 47 = .int .i64 (c.length:Int):=by rw [hay1,tm_put_other (by omega)];exact tx1_47
    have ty2_47:tm ay2 47 = .int .i64 (c.length:Int):=by rw [hay2,tm_put_other (by omega)];exact ty1_47
    have ty3_47:tm ay3 47 = .int .i64 (c.length:Int):=by rw [hay3,tm_put_other (by omega)];exact ty2_47
    have ty4_47:tm ay4 47 = .int .i64 (c.length:Int):=by rw [hay4,tm_put_other (by omega)];exact ty3_47
    have ty5_47:tm ay5 47 = .int .i64 (c.length:Int):=by rw [hay5,tm_put_other (by omega)];exact ty4_47
    have ty2_48:tm ay2 48 = .int .i64 (i:Int):=by rw [hay2,tm_put_other (by omega)];exact ty1_48
    have ty3_48:tm ay3 48 = .int .i64 (i:Int):=by rw [hay3,tm_put_other (by omega)];exact ty2_48
    have ty4_48:tm ay4 48 = .int .i64 (i:Int):=by rw [hay4,tm_put_other (by omega)];exact ty3_48
    have ty5_48:tm ay5 48 = .int .i64 (i:Int):=by rw [hay5,tm_put_other (by omega)];exact ty4_48
    have hc2:ConcH HB F M0 w0 s st ay5 w:=(hay5 ▸ free_put (hay4 ▸ free_put (hay3 ▸ free_put (hay2 ▸ free_put (hay1 ▸ free_put hc1 (hud 50 (by omega)) _) (hud 51 (by omega)) _) (hud 52 (by omega)) _) (hud 10 (by omega)) _) (hud 11 (by omega)) _)
    have k2:tm ay5 9=tm ax1 9:=by rw [hay5,tm_put_other (by omega),hay4,tm_put_other (by omega),hay3,tm_put_other (by omega),hay2,tm_put_other (by omega),hay1,tm_put_other (by omega)]
    refine wpIn_seq (s16_wp hc2 hl h6 (fun d h1 h2=>hu d (by omega) (by omega)) ty5_10 ty5_11 (rng_small (by omega)) (hrg _ (List.getElem_mem _)) fun a3 w3 hc3 k3=>?_)
    refine s17_wp hc3 hl h6 (fun d h1 h2=>hu d (by omega) (by omega)) ((k3 10 (by omega)).trans ty5_10) ((k3 11 (by omega)).trans ty5_11) (rng_small (by omega)) (hrg _ (List.getElem_mem _)) (fun a4 w4 hc4 k4=>?_) h7
    have k34:∀ j,j<53->tm a4 j=tm ay5 j:=fun j hj=>(k4 j (by omega)).trans (k3 j hj)
    have z4:=conc_size hc4 hl
    have f48:tm a4 48 = .int .i64 (i:Int):=(k34 48 (by omega)).trans ty5_48
    have f47:tm a4 47 = .int .i64 (c.length:Int):=(k34 47 (by omega)).trans ty5_47
    have f46':tm a4 46=tm a4 9:=by rw [k34 46 (by omega),k34 9 (by omega),ty5_46,k2,e9]
    refine wpIn_region ?_
    rw [show r56_18.size=2 by kernel_rfl]
    show wpOpsIn (fen ro) n Try.prog r56_18 _ [0,1] a4 w4
    obtain ⟨oq0,iq0,dq0,pq0,qq0⟩:=infoAt info56_18 (i:=0) rfl
    simp only at dq0 pq0 qq0
    rw [wpOpsIn_cons]
    refine opr_value iq0 (wanted_none qq0) (fun c h=>by rw [pq0] at h;cases h) (ex_add1 pq0 f48) ?_
    rw [dq0]
    obtain ⟨aq1,haq1⟩:∃ bb:Act,bb=Act.put a4 (some 72) (.int .i64 (IntKind.i64.wrap ((i:Int)+1))):=⟨_,rfl⟩
    rw [<- haq1]
    have zq1:aq1.tmps.size=79:=by rw [haq1,size_put];exact z4
    have tq1_72:tm aq1 72 = .int .i64 (IntKind.i64.wrap ((i:Int)+1)):=by rw [haq1];exact tm_put_same (by omega)
    obtain ⟨oq1,iq1,dq1,pq1,qq1⟩:=infoAt info56_18 (i:=1) rfl
    simp only at dq1 pq1 qq1
    rw [wpOpsIn_cons]
    refine opr_value iq1 (wanted_none qq1) (fun c h=>by rw [pq1] at h;cases h) (ex_move pq1) ?_
    rw [dq1,tq1_72]
    obtain ⟨aq2,haq2⟩:∃ bb:Act,bb=Act.put aq1 (some 48) (.int .i64 (IntKind.i64.wrap ((i:Int)+1))):=⟨_,rfl⟩
    rw [<- haq2]
    have zq2:aq2.tmps.size=79:=by rw [haq2,size_put];exact zq1
    have tq1_46:tm aq1 46=tm a4 9:=by rw [haq1,tm_put_other (by omega)];exact f46'
    have tq2_46:tm aq2 46=tm a4 9:=by rw [haq2,tm_put_other (by omega)];exact tq1_46
    have tq1_47:tm aq1 47 = .int .i64 (c.length:Int):=by rw [haq1,tm_put_other (by omega)];exact f47
    have tq2_47:tm aq2 47 = .int .i64 (c.length:Int):=by rw [haq2,tm_put_other (by omega)];exact tq1_47
    have tq2_48:tm aq2 48 = .int .i64 (IntKind.i64.wrap ((i:Int)+1)):=by rw [haq2];exact tm_put_same (by omega)
    have hc5:ConcH HB F M0 w0 s st aq2 w4:=(haq2 ▸ free_put (haq1 ▸ free_put hc4 (hud 72 (by omega)) _) (hud 48 (by omega)) _)
    have k5:tm aq2 9=tm a4 9:=by rw [haq2,tm_put_other (by omega),haq1,tm_put_other (by omega)]
    exact ih (i+1) aq2 w4 (by omega) (by omega) ⟨hc5,tq2_46.trans k5.symm,tq2_47,by rw [tq2_48,wrap_small (by omega)]⟩
theorem s13_wp (hc:ConcH HB F M0 w0 s st a w) (hQ:∀ a' w',Lp F M0 w0 s st c 0 a' w'->Q .normal a' w'):(Code.region 13 r56_13 false).wpIn (fen ro) n Try.prog Q a w:=by
  have hsz:=conc_size hc hl
  obtain ⟨ad,cap,e9,_⟩:=list_is hc h9
  have t9:tm a 9 = .slice ad c.length cap:=e9
  refine wpIn_region ?_
  rw [show r56_13.size=3 by kernel_rfl]
  show wpOpsIn (fen ro) n Try.prog r56_13 _ [0,1,2] a w
  obtain ⟨ox0,ix0,dx0,px0,qx0⟩:=infoAt info56_13 (i:=0) rfl
  simp only at dx0 px0 qx0
  rw [wpOpsIn_cons]
  refine opr_value ix0 (wanted_none qx0) (fun c h=>by rw [px0] at h;cases h) (ex_move px0) ?_
  rw [dx0,t9]
  obtain ⟨ax1,hax1⟩:∃ bb:Act,bb=Act.put a (some 46) (.slice ad c.length cap):=⟨_,rfl⟩
  rw [<- hax1]
  have zx1:ax1.tmps.size=79:=by rw [hax1,size_put];exact hsz
  have tx1_46:tm ax1 46 = .slice ad c.length cap:=by rw [hax1];exact tm_put_same (by omega)
  obtain ⟨ox1,ix1,dx1,px1,qx1⟩:=infoAt info56_13 (i:=1) rfl
  simp only at dx1 px1 qx1
  rw [wpOpsIn_cons]
  refine opr_value ix1 (wanted_none qx1) (fun c h=>by rw [px1] at h;cases h) (ex_len (T:=22) (E:=3) (by kernel_rfl) px1 tx1_46) ?_
  rw [dx1]
  obtain ⟨ax2,hax2⟩:∃ bb:Act,bb=Act.put ax1 (some 47) (.int .i64 (c.length:Int)):=⟨_,rfl⟩
  rw [<- hax2]
  have zx2:ax2.tmps.size=79:=by rw [hax2,size_put];exact zx1
  obtain ⟨ox2,ix2,dx2,px2,qx2⟩:=infoAt info56_13 (i:=2) rfl
  simp only at dx2 px2 qx2
  rw [wpOpsIn_cons]
  refine opr_value ix2 (wanted_none qx2) (fun c h=>by rw [px2] at h;cases h) (ex_moveC px2) ?_
  rw [dx2]
  obtain ⟨ax3,hax3⟩:∃ bb:Act,bb=Act.put ax2 (some 48) (.int .i64 0):=⟨_,rfl⟩
  rw [<- hax3]
  have zx3:ax3.tmps.size=79:=by rw [hax3,size_put];exact zx2
  have k9:tm ax3 9=tm a 9:=by rw [hax3,tm_put_other (by omega),hax2,tm_put_other (by omega),hax1,tm_put_other (by omega)]
  have tx2_46:tm ax2 46 = .slice ad c.length cap:=by rw [hax2,tm_put_other (by omega)];exact tx1_46
  have tx3_46:tm ax3 46 = .slice ad c.length cap:=by rw [hax3,tm_put_other (by omega)];exact tx2_46
  have tx2_47:tm ax2 47 = .int .i64 (c.length:Int):=by rw [hax2];exact tm_put_same (by omega)
  have tx3_47:tm ax3 47 = .int .i64 (c.length:Int):=by rw [hax3,tm_put_other (by omega)];exact tx2_47
  have tx3_48:tm ax3 48 = .int .i64 0:=by rw [hax3];exact tm_put_same (by omega)
  exact hQ _ _ ⟨(hax3 ▸ free_put (hax2 ▸ free_put (hax1 ▸ free_put hc (hu 46 (by omega) (by omega)) _) (hu 47 (by omega) (by omega)) _) (hu 48 (by omega) (by omega)) _),tx3_46.trans (k9.trans t9).symm,tx3_47,tx3_48⟩
end
def und56:List Nat:=10 :: 11 :: (List.range 33).map (40 + ·)
noncomputable def E56 {ρ:Type} (k:X->HB.σ->St->Out ρ) (s:HB.σ) (st:St):Out ρ :=
  match get st 9,get st 6,get st 7 with
  | .d (.list (.int .i64)) c,.d .raw v6,.ref .raw v7=>bif ((st.length==79 && st.all qs) && (isV v6 (ptrV (show SB from s).b6) && isV v7 (.map (some (show SB from s).m3)))) && ((decide (List.length (α:=Int) c<1000000) && decide ((show SB from s).xs.length<999999999)) && List.all (α:=Int) c rng) then
      allOf fun v'=>k .normal ((show SB from s).add v' c) (undAll und56 st) else .fail
  | _,_,_=>.fail
theorem undAll_len:∀ (l:List Nat) (st:St),(undAll l st).length=st.length
  | [],_=>rfl
  | d :: l,st=>(undAll_len l (st.set d .und)).trans (by simp)
theorem undAll_get:∀ (l:List Nat) (st:St) (j:Nat),(j∈l/\get (undAll l st) j = .und)\/(j ∉ l/\get (undAll l st) j=get st j)
  | [],_,_=>.inr ⟨by simp,rfl⟩
  | d :: l,st,j=>by
    rcases undAll_get l (st.set d .und) j with ⟨h1,h2⟩|⟨h1,h2⟩
    . exact .inl ⟨List.mem_cons_of_mem _ h1,h2⟩
    . have h2:get (undAll (d :: l) st) j=get (st.set d .und) j:=h2
      by_cases e:j=d
      . subst e
        refine .inl ⟨List.mem_cons_self,?_⟩
        rw [h2]
        by_cases hj:j<st.length
        . rw [get_set _ _ _ _ hj,if_pos rfl]
        . unfold get
          rw [List.getD_eq_getElem?_getD,List.getElem?_eq_none (by simp;omega)]
          rfl
      . exact .inr ⟨by simp [e,h1],by rw [h2,get_setne e]⟩
theorem mem_und56 {d:Nat} (h:d=10\/d=11\/(40<=d/\d<=72)):d∈und56:=by
  unfold und56
  rcases h with rfl|rfl|h
  . simp
  . simp
  . simp only [List.mem_cons,List.mem_map,List.mem_range]
    exact .inr (.inr ⟨d - 40,by omega,by omega⟩)
theorem not_und56 {d:Nat} (h:d<10):d ∉ und56:=by
  unfold und56
  simp only [List.mem_cons,List.mem_map,List.mem_range]
  rintro (h1|h1|⟨x,h1,h2⟩)<;>omega
theorem E56_ok:EOKR Try.prog HB round56 (fun {ρ} k s st=>E56 k s st):=by
  intro ρ fin hf hr F M0 w0 ro n hI hpl k Q hQ s st a w hc h
  have h:E56 k s st=fin:=h
  unfold E56 at h
  split at h
  rotate_left
  . exact absurd h.symm hf
  rename_i c v6 v7 e9 e6 e7
  have h:(bif ((st.length==79 && st.all qs) && (isV v6 (ptrV (show SB from s).b6) && isV v7 (.map (some (show SB from s).m3)))) && ((decide (List.length (α:=Int) c<1000000) && decide ((show SB from s).xs.length<999999999)) && List.all (α:=Int) c rng) then
      allOf fun v'=>k .normal ((show SB from s).add v' c) (undAll und56 st) else .fail)=fin:=h
  cases hcd:((st.length==79 && st.all qs) && (isV v6 (ptrV (show SB from s).b6) && isV v7 (.map (some (show SB from s).m3)))) && ((decide (List.length (α:=Int) c<1000000) && decide ((show SB from s).xs.length<999999999)) && List.all (α:=Int) c rng) with
  | false=>rw [hcd] at h;exact absurd h.symm hf
  | true =>
  have h2:(allOf fun v'=>k .normal ((show SB from s).add v' c) (undAll und56 st))=fin:=by rw [hcd] at h;exact h
  clear h
  simp only [Bool.and_eq_true,beq_iff_eq,decide_eq_true_eq,List.all_eq_true] at hcd
  obtain ⟨⟨⟨hl,hq⟩,hv6,hv7⟩,⟨hcl,hxl⟩,hrg⟩:=hcd
  have hv6:=isV_eq hv6
  have hv7:=isV_eq hv7
  subst hv6
  subst hv7
  have h:=allOf_ok hf h2
  have hqs:∀ j,qs (get st j)=true:=fun j=>by
    unfold get
    rw [List.getD_eq_getElem?_getD]
    cases e:st[j]? with
    | none=>rfl
    | some x=>exact hq x (List.mem_of_getElem? e)
  have hm:∀ j,get (undAll und56 st) j = .und\/get (undAll und56 st) j=get st j:=fun j=>(undAll_get und56 st j).imp (·.2) (·.2)
  have hc':ConcH HB F M0 w0 s (undAll und56 st) a w:=mask_put hc (undAll_len _ _) hm hpl fun j=>by
    rcases hm j with e|e<;>rw [e]
    . rfl
    . exact hqs j
  have hlow:∀ j,j<10->get (undAll und56 st) j=get st j:=fun j hj=>by
    rcases undAll_get und56 st j with ⟨h1,_⟩|⟨_,h2⟩
    . exact absurd h1 (not_und56 hj)
    . exact h2
  have hun:∀ d,(d=10\/d=11\/(40<=d/\d<=72))->get (undAll und56 st) d = .und:=fun d hd=>by
    rcases undAll_get und56 st d with ⟨_,h2⟩|⟨h1,_⟩
    . exact h2
    . exact absurd (mem_und56 hd) h1
  have g6:=(hlow 6 (by omega)).trans e6
  have g7:=(hlow 7 (by omega)).trans e7
  have g9:=(hlow 9 (by omega)).trans e9
  have gl:(undAll und56 st).length=79:=(undAll_len _ _).trans hl
  rw [round56_eq]
  refine wpIn_block (wpIn_seq (s12_wp (s:=s) hc' gl g6 g9 (fun d h1 h2=>hun d (by omega)) hxl fun v' a1 w1 hc1=>?_))
  refine wpIn_seq (s13_wp (s:=SB.add s v' c) gl g6 g7 g9 (fun d h1 h2=>hun d (by omega)) (hun 10 (by omega)) (hun 11 (by omega)) hc1 fun a2 w2 hL=>?_)
  refine wpIn_block (wpIn_loop_rounds (List.length (α:=Int) c+1) (loop56 (s:=SB.add s v' c) gl g6 g7 g9 (fun d h1 h2=>hun d (by omega)) (hun 10 (by omega)) (hun 11 (by omega)) hcl (fun x hx=>List.all_eq_true.1 hrg x hx) (fun a3 w3 hc3=>?_) _ 0 a2 w2 (by omega) (by omega) hL))
  exact hQ .normal _ _ _ _ hc3 (h v')
end Go.V
namespace Go.V
open Go.Proofs
open Go.RowKit (Below)
noncomputable def at56 (l:List Nat):Code:=match codeAt l (bodyOf Try.f20) with|some c=>c|none=>.skip
noncomputable def C56:Code:=.seq (at56 [1,1,1,1,0]) (at56 [1,1,1,1,1,0,0])
noncomputable def st56 (s0:SB) (sh:SHT):St:=[.und,.und,.ref SHTY sh,.und,.d .raw (ptrV s0.b4),.und,.d .raw (ptrV s0.b6),.ref .raw (.map (some s0.m3))]++List.replicate 71 .und
noncomputable def k56 (s0:SB) (sh:SHT) (x:X) (s:HB.σ) (st:St):Out Unit :=
  match x with
  | .normal=>(match get st 38,get st 4,get st 6,get st 7 with
    | .d (.clo 61 .unit (.prod (.ptr (.prod (.list (.list (.int .i64))) (.prod (.list (.int .i64)) .unit))) .unit)) z,.d .raw v4,.d .raw v6,.ref .raw v7=>bif st.length==79 && (st.map rngS).all qs then bif same z ((),sh,()) && (same (show SB from s) s0 && (isV v4 (ptrV s0.b4) && (isV v6 (ptrV s0.b6) && isV v7 (.map (some s0.m3))))) then .ret () else .fail else .fail
    | _,_,_,_=>.fail)
  | _=>.fail
noncomputable def specs56m:List Spec:=[sp84,sp85a]
def hints56m:List (Nat×List Nat):=[(6,[2,4,6,7,24,25])]
noncomputable def r56_8:Array Oper:=regAt 8 (bodyOf Try.f20)
theorem info56_8:r56_8.toList.map opInfo=[(some 29,.load 83 (.tmp 7),none),
  (some 30,.move (.tmp 8),none),
  (some 31,.load 42 (.tmp 2),none),
  (some 32,.move (.tmp 8),none),
  (some 33,.call { callee:=.value (.func 38),args := #[.tmp 31,.tmp 32],argTypes := #[42,3] },none),
  (some 28,.move (.tmp 33),none),
  (some 34,.extract (.tmp 28) 0,none),
  (some 35,.extract (.tmp 28) 1,none),
  (none,.mapUpdate 83 (.tmp 29) (.tmp 30) (.tmp 35),none)]:=by kernel_rfl
noncomputable def g568 (s:HB.σ) (st:St):Bool×Outs HB :=
  match get st 29 with
  | .d .raw v=>(match get st 30 with
    | .d (.int .i64) k=>(match get st 35 with
      | .d (.int .i64) _=>(isV v (.map (some (show SB from s).m3)) && rng k,.some [(s,st)])
      | _=>(false,.some []))
    | _=>(false,.some []))
  | _=>(false,.some [])
theorem h568:HandOp Try.prog HB r56_8 8 g568:=by
  intro F M0 w0 n hI hpl Q K s st a w hc h1 hK
  obtain ⟨o8,i8,d8,p8,q8⟩:=infoAt info56_8 (i:=8) rfl
  simp only at d8 p8 q8
  unfold g568 at h1 hK
  split at h1
  rotate_left
  . cases h1
  rename_i v e29
  split at h1
  rotate_left
  . cases h1
  rename_i k e30
  split at h1
  rotate_left
  . cases h1
  rename_i m e35
  simp only [Bool.and_eq_true] at h1
  have t29:tm a 29 = .map (some (show SB from s).m3):=(cell_raw hc e29).trans (isV_eq h1.1)
  have t30:tm a 30 = .int .i64 k:=by
    obtain ⟨_,M,hG⟩:=id hc
    have s1:=hG.2.1.slot 30
    rw [e30] at s1
    exact slot_int s1
  have t35:tm a 35 = .int .i64 m:=by
    obtain ⟨_,M,hG⟩:=id hc
    have s1:=hG.2.1.slot 35
    rw [e35] at s1
    exact slot_int s1
  obtain ⟨M,hI0⟩:=conc_IB hc
  obtain ⟨es,cl,e1,e2⟩:=hI0.m3
  obtain ⟨es2,cl2,e3,e4⟩:=map_put und91 keyI e1 e2 ⟨k,h1.2,rfl⟩ (⟨m,rfl⟩:vpI (.int .i64 m))
  refine opr_skipped (ro:=none) i8 (wanted_none q8) (fun c h=>by rw [p8] at h;cases h) (ex_put p8 t29 t30 t35 e3) ?_
  rw [d8,put_none]
  refine hK (s,st) ?_ _ _ (conc_map hc (.inr (.inr rfl)) (fun e=>absurd e.symm hI0.mm.2.1) (fun e=>absurd e.symm hI0.mm.2.2) fun _=>e4)
  rw [e29,e30,e35]
  exact .head _
noncomputable def T56m:List (List Nat×HdH HB):=[([0,1,0,0,1,1,0,0,1],⟨fun {ρ} k s st=>regAnyQ Try.prog HB (fun _=>phi specs56m) hints56m 8 (some g568) 8 r56_8 k s st⟩)]
noncomputable def L56m_0 (N:Nat) (n_L56m_0:Nat) (s0:SB) (sh:SHT) (t25_1:Int):Out Unit :=
  vloopC Try.prog HB (phi specs56m) hints56m N T56m C56 (k56 s0 sh) [0,1,0] n_L56m_0 s0 [.und,.und,.ref (.prod (.list (.list (.int .i64))) (.prod (.list (.int .i64)) .unit)) sh,.und,.d .raw (ptrV s0.b4),.und,.d .raw (ptrV s0.b6),.ref .raw (.map (some s0.m3)),.und,.und,.und,.und,.und,.und,.und,.und,.und,.und,.und,.und,.und,.und,.und,.und,.d (.int .i64) (lenI (List.getD sh.1 (0:Int).toNat ([]:List Int))),.d (.int .i64) t25_1,.und,.und,.und,.und,.und,.und,.und,.und,.und,.und,.und,.und,.und,.und,.und,.und,.und,.und,.und,.und,.und,.und,.und,.und,.und,.und,.und,.und,.und,.und,.und,.und,.und,.und,.und,.und,.und,.und,.und,.und,.und,.und,.und,.und,.und,.und,.und,.und,.und,.und,.und,.und,.und]
theorem L56m_0_succ (N:Nat) (n_L56m_0:Nat) (s0:SB) (sh:((List (List Int))×((List Int)×Unit))) (t25_1:Int):L56m_0 N  (n_L56m_0+1) s0 sh t25_1 =
    (
    match (decide (t25_1<(lenI (List.getD sh.1 (0:Int).toNat ([]:List Int))))) with
    | true =>
      match f84 (sh,(t25_1,())) with
      | .ret r_2 =>
        bif (isV (.map (some s0.m3)) (.map (some s0.m3)) && rng t25_1) then
          L56m_0 N n_L56m_0 s0 sh (IntKind.i64.wrap (t25_1+(1:Int)))
        else .fail
      | .pan p_3 =>
        .fail
      | .fail=>.fail
    | false =>
      match f85a (sh,()) with
      | .ret r_4 =>
        bif (same (r_4) ((),sh,()) && (same s0 s0 && (isV (ptrV s0.b4) (ptrV s0.b4) && (isV (ptrV s0.b6) (ptrV s0.b6) && isV (.map (some s0.m3)) (.map (some s0.m3)))))) then
          .ret ()
        else .fail
      | .pan p_5 =>
        .pan p_5
      | .fail=>.fail:Out Unit):=by
  kernel_rfl
noncomputable def S56 (N:Nat) (s0:SB) (sh:SHT):Out Unit :=
  bif (inb (0:Int) sh.1.length) then
    L56m_0 N N s0 sh (0:Int)
  else .fail
theorem s56 (N:Nat) (s0:SB) (sh:SHT):vhq Try.prog HB (phi specs56m) hints56m N C56 T56m (k56 s0 sh) s0 (st56 s0 sh)=S56 N s0 sh:=by
  kernel_rfl
end Go.V
namespace Go.V
open Go.Proofs
open Go.RowKit (Below)
abbrev CLOT:Ty:=.clo 61 .unit (.prod (.ptr SHTY) .unit)
noncomputable def stR (s0:SB) (sh:SHT):St:=[.und,.und,.und,.und,.d .raw (ptrV s0.b4),.und,.d .raw (ptrV s0.b6),.ref .raw (.map (some s0.m3))]++List.replicate 30 .und++[.d CLOT ((),sh,())]++List.replicate 40 .und
noncomputable def sameB (s s0:SB):Bool := @decide (∃ v xs,s={ s0 with v:=v,xs:=xs }) (Classical.propDecidable _)
theorem sameB_iff {s s0:SB}:sameB s s0=true<->∃ v xs,s={ s0 with v:=v,xs:=xs }:=by unfold sameB;exact @decide_eq_true_iff _ (Classical.propDecidable _)
theorem vrngH_cons {σ ρ:Type} (f:(X->σ->St->Out ρ)->σ->St->Out ρ) (same:σ->Bool) (p:Nat) (e:Ty) (st:St) (k:X->σ->St->Out ρ) (y:e.den) (ys:List e.den) (s:σ):vrngH f same p e st k (y :: ys) s=f (fun x s' _=>bif same s' then (match x with
      | .normal=>vrngH f same p e st k ys s'
      | x=>k x s' st) else .fail) s (st.set p (dS e y)):=rfl
theorem sameB_add {s s0:SB} (h:sameB s s0=true) (v:Value) (c:List Int):sameB (s.add v c) s0=true:=by
  obtain ⟨v0,xs,rfl⟩:=sameB_iff.1 h
  exact sameB_iff.2 ⟨_,_,rfl⟩
noncomputable def kR (s0:SB) (sh:SHT) (ys:List (List Int)) (x:X) (s:HB.σ) (st:St):Out Unit :=
  match x with
  | .normal=>bif same st (stR s0 sh) && (sameB s s0 && same (show SB from s).xs ys) then .ret () else .fail
  | _=>.fail
theorem stR_rng (s0:SB) (sh:SHT):(stR s0 sh).map rngS=stR s0 sh:=by rfl
theorem assign56_eq (s0:SB) (sh:SHT) (hints:List (Nat×List Nat)) (hh:hints=[]) (N:Nat) (k:X->St->Out Unit) (y:List Int):vexec Try.prog (phi []) [] N assign56 (some []) k ((stR s0 sh).set 39 (.d (.list (.int .i64)) y))=k .normal (((stR s0 sh).set 39 (.d (.list (.int .i64)) y)).set 9 (.d (.list (.int .i64)) y)):=by kernel_rfl
theorem vhr56 (N:Nat) (k:X->HB.σ->St->Out Unit) (s:HB.σ) (st:St):vhr Try.prog HB (phi []) [] N round56 [([],⟨fun {ρ} k s st=>E56 k s st⟩)] k s st=E56 k s st:=by
  rw [round56_eq]
  rfl
theorem qsR (s0:SB) (sh:SHT) (y:List Int):(((stR s0 sh).set 39 (.d (.list (.int .i64)) y)).set 9 (.d (.list (.int .i64)) y)).all qs=true:=by rfl
theorem E56_at (s0:SB) (sh:SHT) (k:X->HB.σ->St->Out Unit) (s:SB) (hs:sameB s s0=true) (y:List Int):E56 k s (((stR s0 sh).set 39 (.d (.list (.int .i64)) y)).set 9 (.d (.list (.int .i64)) y))=bif (decide (y.length<1000000) && decide (s.xs.length<999999999)) && y.all rng then allOf fun v'=>k .normal (s.add v' y) (undAll und56 (((stR s0 sh).set 39 (.d (.list (.int .i64)) y)).set 9 (.d (.list (.int .i64)) y))) else .fail:=by
  obtain ⟨v0,xs,rfl⟩:=sameB_iff.1 hs
  show (bif ((_==79 && List.all _ qs) && (isV (ptrV s0.b6) (ptrV s0.b6) && isV (.map (some s0.m3)) (.map (some s0.m3)))) && ((decide (y.length<1000000) && decide (xs.length<999999999)) && y.all rng) then _ else _)=_
  rw [qsR,isV_refl,isV_refl]
  rfl
def colOK (y:List Int):Bool:=decide (y.length<1000000) && y.all rng
theorem rng56 (s0:SB) (sh:SHT) (N:Nat) (zs:List (List Int)):∀ (ys:List (List Int)) (s:SB),sameB s s0=true->ys.all colOK=true->s.xs.length+ys.length<999999999->s.xs++ys=zs ->
    vrngH (fun k' s st=>vexec Try.prog (phi []) [] N assign56 (some []) (fun x st=>match x with | .normal=>vhr Try.prog HB (phi []) [] N round56 [([],⟨fun {ρ} k s st=>E56 k s st⟩)] k' s st|_=>.fail) st) (fun s=>sameB s s0) 39 (.list (.int .i64)) (stR s0 sh) (kR s0 sh zs) ys s = .ret ():=by
  intro ys
  induction ys with
  | nil =>
    intro s h1 _ _ h4
    show kR s0 sh zs .normal s (stR s0 sh)=_
    unfold kR
    rw [List.append_nil] at h4
    subst h4
    simp [same_refl,h1]
  | cons y ys ih =>
    intro s h1 h2 h3 h4
    refine (vrngH_cons (σ:=HB.σ) _ _ _ _ _ _ _ _ _).trans ?_
    have hy:colOK y=true/\ys.all colOK=true:=by simpa using h2
    obtain ⟨hy1,hy2⟩:=hy
    unfold colOK at hy1
    simp only [Bool.and_eq_true,decide_eq_true_eq] at hy1
    show vexec Try.prog (phi []) [] N assign56 (some []) _ ((stR s0 sh).set 39 (.d (.list (.int .i64)) y))=_
    rw [assign56_eq s0 sh [] rfl]
    show vhr Try.prog HB (phi []) [] N round56 _ _ s _=_
    refine (vhr56 N _ s _).trans ((E56_at s0 sh _ s h1 y).trans ?_)
    have hlt:s.xs.length<999999999:=by simp only [List.length_cons] at h3;omega
    rw [decide_eq_true hy1.1,decide_eq_true hlt,hy1.2]
    simp only [Bool.and_self,cond_true]
    refine allOf_eq fun v'=>?_
    show (bif sameB (s.add v' y) s0 then _ else _)=_
    rw [sameB_add h1]
    exact ih (s.add v' y) (sameB_add h1 _ _) hy2 (by simp only [SB.add,List.length_append,List.length_cons,List.length_nil] at h3 ⊢;omega) (by rw [<- h4];simp [SB.add])
end Go.V
namespace Go.V
open Go.Proofs
open Go.RowKit (Below)
theorem clo_ptr {M:Mut} {w:World} {v:Value} {sh:SHT} (h:RepV M w CLOT v ((),sh,())):∃ ps,v = .func (.func 61) #[] #[ps]/\RepV M w (.ptr SHTY) ps sh:=by
  obtain ⟨cs,rfl,fc,pc,rfl,h1,c1,c2,rfl,h2,h3⟩:=h
  have h1:fc=[]:=h1
  have h3:c2=[]:=h3
  subst h1
  subst h3
  have hl:c1.length=1:=RepC.length _ _ _ h2
  match c1,hl with
  | [ps],_=>exact ⟨ps,rfl,[ps],rfl,h2⟩
theorem range56_at:at56 [1,1,1,1,1,0] = .seq (at56 [1,1,1,1,1,0,0]) (.block 2 (.rangeFunc (.tmp 38) #[39] assign56 round56)):=by kernel_rfl
theorem tail56_at:at56 [1,1,1,1] = .seq (at56 [1,1,1,1,0]) (.seq (at56 [1,1,1,1,1,0]) (at56 [1,1,1,1,1,1])):=by kernel_rfl
section
variable {n : Nat} {Q : Exit → Act → World → Prop} {F : Nat → Prop} {M0 : Base} {w0 : World} {s0 : SB} {a : Act} {w : World} {sh : SHT}
theorem range56_wp (hI:∀ w,Fr F w0 w->Inv.I Try.prog w) (hpl:∀ j v,M0.pin j=some v->False) {r:Int} {lists:LLI} {zs:List Int} {N m:Nat} {res:List (List Int)×List Int}
    (hS:∀ yv,S112 N yv sh = .ret (r,lists,zs,())) (hz:zs≠[]) (hP:fromP lists sh m (IntKind.i64.wrap (r - 1)) sh.2.1 zs = .ret res) (hcol:res.1.all colOK=true) (hlen:res.1.length<999999999) (hx0:s0.xs=[])
    (hc:ConcH HB F M0 w0 s0 (stR s0 sh) a w) (hQ:∀ s a' w',ConcH HB F M0 w0 s (stR s0 sh) a' w'->sameB s s0=true->s.xs=res.1->Q .normal a' w') :
    (Code.rangeFunc (.tmp 38) #[39] assign56 round56).wpIn (fen none) n Try.prog Q a w:=by
  obtain ⟨hfr,M,hG⟩:=hc
  have s38:=hG.2.1.slot 38
  have e38:get (stR s0 sh) 38 = .d CLOT ((),sh,()):=rfl
  rw [e38] at s38
  obtain ⟨ps,hv,hp⟩:=clo_ptr (show RepV M w CLOT (tm a 38) ((),sh,()) from s38)
  have hit:=iter112 hp hS hz hP
  refine range_okH (P:=Try.prog) (ρ:=Unit) (H:=HB) (Φ:=phi []) [] N (fin:=.ret ()) (by simp) (by simp) (T:=[([],⟨fun {ρ} k s st=>E56 k s st⟩)]) (code_ok (phi_ok all_nil) mixed [] N (by simp) assign56) (vhr_ok (phi_ok all_nil) mixed [] N (by simp) (by simp) round56) (allR_cons (c':=round56) rfl E56_ok allR_nil)
    hI hpl (same:=fun s=>sameB s s0) (s0:=s0) (fun _ _ _ _ h=>h) (fun s M w b hs hI hb=>?_) (sameB_iff.2 ⟨_,_,rfl⟩) (k:=kR s0 sh res.1) (fun x s st a' w' hc' hk=>?_) (st:=stR s0 sh) hfr hG rfl (show a.eval (.tmp 38)=_ from hv) hit ?_ ?_
  . have hI:IB s M w:=hI
    rcases hI.at_ hb with ⟨C,E,e⟩|⟨hm,_⟩
    . exact .inr ⟨_,e,rfl⟩
    . obtain ⟨v,xs,rfl⟩:=sameB_iff.1 hs
      refine .inl ?_
      rcases hm with h|h|h
      . exact .inr (.inr (.inl h))
      . exact .inr (.inr (.inr (.inl h)))
      . exact .inr (.inr (.inr (.inr (.inl h))))
  . unfold kR at hk
    split at hk
    rotate_left
    . cases hk
    cases hcd:(same st (stR s0 sh) && (sameB s s0 && same (show SB from s).xs res.1)) with
    | false=>rw [hcd] at hk;cases hk
    | true =>
    rw [Bool.and_eq_true,Bool.and_eq_true] at hcd
    have e1:=same_eq hcd.1
    subst e1
    exact hQ s a' w' hc' hcd.2.1 (same_eq hcd.2.2)
  . rw [stR_rng];rfl
  . rw [stR_rng]
    exact rng56 s0 sh N res.1 res.1 s0 (sameB_iff.2 ⟨_,_,rfl⟩) hcol (by rw [hx0];simpa using hlen) (by rw [hx0];rfl)
theorem all56m:∀ sp∈specs56m,Contract Try.prog sp:=fun sp hs=>by
  simp only [specs56m,List.mem_cons,List.not_mem_nil,or_false] at hs
  rcases hs with rfl|rfl
  . exact c84
  . exact c85a
theorem allQ56m:AllQ Try.prog HB C56 T56m:=allQ_cons (c' := .region 8 r56_8 true) (by kernel_rfl) (regAnyQ_ok mixed (fun s g sp hs=>.inl (all56m sp (List.mem_filter.1 hs).1)) hints56m (fun g h=>by cases h;exact h568)) allQ_nil
theorem stR_low (s0:SB) (sh:SHT) {j:Nat} (h:get (stR s0 sh) j ≠ .und):j=4\/j=6\/j=7\/j=38:=by
  by_cases hj:j<79
  . have:∀ k,k<79->k≠4->k≠6->k≠7->k≠38->get (stR s0 sh) k = .und:=by
      intro k hk h4 h6 h7 h38
      have h1:((List.range 79).all fun k=>k==4 || k==6 || k==7 || k==38 || (match get (stR s0 sh) k with | .und=>true|_=>false))=true:=by rfl
      have h2:=List.all_eq_true.1 h1 k (List.mem_range.2 hk)
      have e4:(k==4)=false:=by simpa using h4
      have e6:(k==6)=false:=by simpa using h6
      have e7:(k==7)=false:=by simpa using h7
      have e38:(k==38)=false:=by simpa using h38
      rw [e4,e6,e7,e38] at h2
      simp only [Bool.false_or] at h2
      split at h2
      . assumption
      . cases h2
    by_cases h4:j=4
    . exact .inl h4
    by_cases h6:j=6
    . exact .inr (.inl h6)
    by_cases h7:j=7
    . exact .inr (.inr (.inl h7))
    by_cases h38:j=38
    . exact .inr (.inr (.inr h38))
    exact absurd (this j hj h4 h6 h7 h38) h
  . exfalso
    apply h
    unfold get
    rw [List.getD_eq_getElem?_getD,List.getElem?_eq_none (by show 79<=j;omega)]
    rfl
theorem mid56_wp (hI:∀ w,Fr F w0 w->Inv.I Try.prog w) (hpl:∀ j v,M0.pin j=some v->False) {r:Int} {lists:LLI} {zs:List Int} {N m:Nat} {res:List (List Int)×List Int}
    (hM:S56 N s0 sh = .ret ()) (hS:∀ yv,S112 N yv sh = .ret (r,lists,zs,())) (hz:zs≠[]) (hP:fromP lists sh m (IntKind.i64.wrap (r - 1)) sh.2.1 zs = .ret res) (hcol:res.1.all colOK=true) (hlen:res.1.length<999999999) (hx0:s0.xs=[])
    (hc:ConcH HB F M0 w0 s0 (st56 s0 sh) a w) (hQ:∀ s a' w',ConcH HB F M0 w0 s (stR s0 sh) a' w'->sameB s s0=true->s.xs=res.1->(at56 [1,1,1,1,1,1]).wpIn (fen none) n Try.prog Q a' w') :
    (at56 [1,1,1,1]).wpIn (fen none) n Try.prog Q a w:=by
  have h0:=(s56 N s0 sh).trans hM
  have hf:(Out.ret ():Out Unit) ≠ .fail:=by simp
  have hr:∀ p,(Out.ret ():Out Unit) ≠ .pan p:=by simp
  have kn:∀ {x:X} {s:HB.σ} {st:St},k56 s0 sh x s st = .ret ()->x = .normal/\s=s0/\st.length=79/\(∀ j,qs (get (st.map rngS) j)=true)/\get st 38 = .d CLOT ((),sh,())/\get st 4 = .d .raw (ptrV s0.b4)/\get st 6 = .d .raw (ptrV s0.b6)/\get st 7 = .ref .raw (.map (some s0.m3)):=by
    intro x s st h
    unfold k56 at h
    split at h
    rotate_left
    . cases h
    split at h
    rotate_left
    . cases h
    rename_i z v4 v6 v7 e38 e4 e6 e7
    cases h1:(st.length==79 && (st.map rngS).all qs) with
    | false=>rw [h1] at h;cases h
    | true =>
    rw [h1] at h
    simp only [cond_true] at h
    cases h2:(same z ((),sh,()) && (same (show SB from s) s0 && (isV v4 (ptrV s0.b4) && (isV v6 (ptrV s0.b6) && isV v7 (.map (some s0.m3)))))) with
    | false=>rw [h2] at h;cases h
    | true =>
    simp only [Bool.and_eq_true,beq_iff_eq] at h1 h2
    obtain ⟨g1,g2,g3,g4,g5⟩:=h2
    have g1:=same_eq g1
    have g2:=same_eq g2
    have g3:=isV_eq g3
    have g4:=isV_eq g4
    have g5:=isV_eq g5
    subst g1
    subst g3
    subst g4
    subst g5
    refine ⟨rfl,g2,h1.1,fun j=>?_,e38,e4,e6,e7⟩
    unfold get
    rw [List.getD_eq_getElem?_getD]
    cases e:(st.map rngS)[j]? with
    | none=>rfl
    | some x=>exact List.all_eq_true.1 h1.2 x (List.mem_of_getElem? e)
  have hQ':∀ (x:X) (s:HB.σ) (st:St) (a':Act) (w':World),x ≠ .normal->ConcH HB F M0 w0 s st a' w'->k56 s0 sh x s st = .ret ()->Q x.exit' a' w':=fun x s st a' w' hx _ hk=>absurd (kn hk).1 hx
  rw [tail56_at]
  unfold C56 at h0
  have hT:=allQ56m
  unfold C56 at hT
  refine chain_seq (phi_ok all56m) mixed hints56m N hf hr hT (by unfold T56m;simp) (by kernel_rfl) hI hpl hQ' (fun s st a w hc h=>?_) hc h0
  rw [range56_at]
  refine wpIn_seq (wpIn_seq (vhq_ok (phi_ok all56m) mixed hints56m N hf hr _ _ hT.seq.2 F M0 w0 n hI hpl _ _ ?_ s st a w hc h))
  intro x s' st' a' w' hc' hx
  obtain ⟨rfl,es,hl,hqs,e38,e4,e6,e7⟩:=kn hx
  rw [es] at hc'
  have hcR:ConcH HB F M0 w0 s0 (stR s0 sh) a' w':=by
    obtain ⟨hf',M,hG⟩:=hc'
    refine ⟨hf',M,hG.unfocus (Fr.refl _ _) (hG.focus.mask (by rw [hl];rfl) (fun j=>?_) fun j v hj=>(hpl j v hj).elim)⟩
    by_cases hu:get (stR s0 sh) j = .und
    . exact .inl hu
    . refine .inr (.inl ?_)
      rcases stR_low s0 sh hu with rfl|rfl|rfl|rfl
      . rw [e4];rfl
      . rw [e6];rfl
      . rw [e7];rfl
      . rw [e38];rfl
  refine wpIn_block ?_
  exact range56_wp (s0:=s0) hI hpl hS hz hP hcol hlen hx0 hcR fun s' a' w' h1 h2 h3=>hQ s' a' w' h1 h2 h3
end
end Go.V
namespace Go.V
open Go.Proofs
open Go.RowKit (Below)
noncomputable def r56_0:Array Oper:=regAt 0 (bodyOf Try.f20)
theorem info56_0:r56_0.toList.map opInfo=[(some 2,.box 42 (.tmp 0),none),
  (some 4,.alloc 58,none),
  (some 5,.assign (.const (.int .i64 0)),none)]:=by kernel_rfl
noncomputable def r56_1:Array Oper:=regAt 1 (bodyOf Try.f20)
theorem info56_1:r56_1.toList.map opInfo=[(some 12,.move (.tmp 1),none),
  (some 13,.unOp .not 4 (.tmp 12),none)]:=by kernel_rfl
noncomputable def r56_3:Array Oper:=regAt 3 (bodyOf Try.f20)
theorem info56_3:r56_3.toList.map opInfo=[(some 15,.load 42 (.tmp 2),none),
  (some 16,.makeMap 55 none,none),
  (some 17,.makeMap 56 none,none),
  (some 18,.build 58 #[(0,.tmp 15),(2,.tmp 16),(3,.tmp 17)],none),
  (some 6,.alloc 58,none),
  (none,.store 58 (.tmp 6) (.tmp 18),none)]:=by kernel_rfl
noncomputable def r56_4:Array Oper:=regAt 4 (bodyOf Try.f20)
theorem info56_4:r56_4.toList.map opInfo=[(some 19,.makeMap 83 none,none),
  (some 7,.alloc 83,none),
  (none,.store 83 (.tmp 7) (.tmp 19),none)]:=by kernel_rfl
noncomputable def r56_19:Array Oper:=regAt 19 (bodyOf Try.f20)
theorem info56_19:r56_19.toList.map opInfo=[(some 73,.fieldAddr 58 (.tmp 6) 1,none),
  (some 74,.load 40 (.tmp 73),none),
  (some 75,.call { callee:=.builtin .len,args := #[.tmp 74],argTypes := #[40] },none),
  (some 76,.binOp .eql 3 (.tmp 75) (.const (.int .i64 0)) 3,none)]:=by kernel_rfl
noncomputable def r56_21:Array Oper:=regAt 21 (bodyOf Try.f20)
theorem info56_21:r56_21.toList.map opInfo=[(some 78,.load 58 (.tmp 6),none),
  (none,.store 58 (.tmp 4) (.tmp 78),none),
  (some 5,.assign (.const (.int .i64 0)),none)]:=by kernel_rfl
theorem some56:Try.f20.body=some (bodyOf Try.f20):=by kernel_rfl
theorem body56_at:bodyOf Try.f20 = .seq (.region 0 r56_0 false) (.seq (.seq (.region 1 r56_1 false) (.cond (.tmp 13) (at56 [1,0,1,0]) .skip)) (.seq (.region 3 r56_3 false) (.seq (.region 4 r56_4 false) (at56 [1,1,1,1])))):=by kernel_rfl
theorem end56_at:at56 [1,1,1,1,1,1] = .seq (.seq (.region 19 r56_19 false) (.cond (.tmp 76) (at56 [1,1,1,1,1,1,0,1,0]) .skip)) (.seq (.region 21 r56_21 false) .ret):=by kernel_rfl
abbrev BOOKT:Ty:=.prod SHTY (.prod (.list (.list (.int .i64))) (.prod .opq (.prod .opq .unit)))
def Z98:Array Value := #[.slice none 0 0,.slice none 0 0,.slice none 0 0,.map none,.map none]
section
variable {a : Act} {w : World} {o : Oper}
theorem ex_box67 {p:Nat} (ho:o.op = .box 42 (.tmp p)) {x y:Value} (h:tm a p = .agg #[x,y]):(execOp a.eval o).run Try.prog w = .ok (.value (.pointer (some ⟨w.heap.size,0,none⟩))) (w.alloc (.cells #[x,y] 42)):=by
  have e:a.eval (.tmp p) = .agg #[x,y]:=h
  simp only [execOp,ho,e]
  simp [go_sem]
theorem ex_alloc98 (ho:o.op = .alloc 58):(execOp a.eval o).run Try.prog w = .ok (.value (.pointer (some ⟨w.heap.size,0,none⟩))) (w.alloc (.cells Z98 58)):=by
  simp only [execOp,ho]
  simp [go_sem,Z98]
theorem ex_alloc91 (ho:o.op = .alloc 83):(execOp a.eval o).run Try.prog w = .ok (.value (.pointer (some ⟨w.heap.size,0,none⟩))) (w.alloc (.cells #[.map none] 83)):=by
  simp only [execOp,ho]
  simp [go_sem]
theorem ex_assignK {v:Value} (ho:o.op = .assign (.const v)):(execOp a.eval o).run Try.prog w = .ok (.value v) w:=by
  simp [execOp,ho,Act.eval]
theorem ex_load67 {p:Nat} (ho:o.op = .load 42 (.tmp p)) {b T:Nat} {c0 c1:Value} (ht:tm a p = .pointer (some ⟨b,0,none⟩)) (hh:w.heap[b]? = some (.cells #[c0,c1] T (0,0))) :
    (execOp a.eval o).run Try.prog w = .ok (.value (.agg #[c0,c1])) w:=by
  have:=load_cells (P:=Try.prog) (n:=9) (T:=42) (t:=SHTY) (w:=w) (b:=b) (off:=0) (us':=[]) (c1:=[c0,c1]) (by kernel_rfl) hh rfl rfl
  have e1:a.eval (.tmp p) = .pointer (some ⟨b,0,none⟩):=ht
  simp [execOp,ho,e1,Instr.loadAt,Instr.sureAddr,this,toVal,Ty.agg]
theorem ex_load98 {p:Nat} (ho:o.op = .load 58 (.tmp p)) {b T:Nat} {c0 c1 c2 c3 c4:Value} (ht:tm a p = .pointer (some ⟨b,0,none⟩)) (hh:w.heap[b]? = some (.cells #[c0,c1,c2,c3,c4] T (0,0))) :
    (execOp a.eval o).run Try.prog w = .ok (.value (.agg #[c0,c1,c2,c3,c4])) w:=by
  have:=load_cells (P:=Try.prog) (n:=9) (T:=58) (t:=BOOKT) (w:=w) (b:=b) (off:=0) (us':=[]) (c1:=[c0,c1,c2,c3,c4]) (by kernel_rfl) hh rfl rfl
  have e1:a.eval (.tmp p) = .pointer (some ⟨b,0,none⟩):=ht
  simp [execOp,ho,e1,Instr.loadAt,Instr.sureAddr,this,toVal,Ty.agg]
theorem ex_makeMap {T:Nat} (ho:o.op = .makeMap T none):(execOp a.eval o).run Try.prog w = .ok (.value (.map (some w.heap.size))) (w.alloc (.map #[] 0)):=by
  simp [execOp,ho,Instr.makeMap]
theorem ex_build98 {p q r:Nat} (ho:o.op = .build 58 #[(0,.tmp p),(2,.tmp q),(3,.tmp r)]) {x y:Value} {m1 m2:Option Nat} (h1:tm a p = .agg #[x,y]) (h2:tm a q = .map m1) (h3:tm a r = .map m2):(execOp a.eval o).run Try.prog w = .ok (.value (.agg #[x,y,.slice none 0 0,.map m1,.map m2])) w:=by
  have e1:a.eval (.tmp p) = .agg #[x,y]:=h1
  have e2:a.eval (.tmp q) = .map m1:=h2
  have e3:a.eval (.tmp r) = .map m2:=h3
  simp only [execOp,ho,List.map_toArray,List.map_cons,List.map_nil,e1,e2,e3]
  simp [go_sem]
theorem ex_store98 {i j:Nat} (ho:o.op = .store 58 (.tmp i) (.tmp j)) {b T:Nat} {C:Array Value} {v0 v1 v2 v3 v4:Value} (h1:tm a i = .pointer (some ⟨b,0,none⟩)) (h3:tm a j = .agg #[v0,v1,v2,v3,v4]) (hh:w.heap[b]? = some (.cells C T (0,0))) (hC:C.size=5)
    (ho1:∀ v∈[v0,v1,v2,v3,v4],v.oneCell'=true):(execOp a.eval o).run Try.prog w = .ok .skip (w.setRow b #[v0,v1,v2,v3,v4]):=by
  obtain ⟨l⟩:=C
  match l,hC with
  | [a0,a1,a2,a3,a4],_ =>
  have e1:a.eval (.tmp i) = .pointer (some ⟨b,0,none⟩):=h1
  have e3:a.eval (.tmp j) = .agg #[v0,v1,v2,v3,v4]:=h3
  have hrun:=run_storeVar (P:=Try.prog) (n:=9) (T:=58) (t:=BOOKT) (by kernel_rfl) (o:=0) (v:=.agg #[v0,v1,v2,v3,v4]) rfl hh (by show 0+5<=5;omega) ho1
  simp only [execOp,ho,e1,e3,Instr.storeAt,Instr.sureAddr,Sem.run_bind,Sem.run_pure,Result.andThen_ok]
  rw [hrun]
  rfl
end
theorem ex_eqlK {a:Act} {w:World} {o:Oper} {p:Nat} (ho:o.op = .binOp .eql 3 (.tmp p) (.const (.int .i64 0)) 3) {x:Int} (h:tm a p = .int .i64 x) (hx:x≠0):(execOp a.eval o).run Try.prog w = .ok (.value (.bool false)) w:=by
  have e1:a.eval (.tmp p) = .int .i64 x:=h
  have e2:a.eval (.const (.int .i64 0)) = .int .i64 0:=rfl
  have e3:(binOp .eql 3 (.int .i64 x) (.int .i64 0)).run Try.prog w = .ok (.bool false) w:=by simp [binOp,Op.intCmp,hx]
  simp [execOp,ho,e1,e2,eqG_int,e3]
theorem results_pair {fn:Func} {P:Program} {tmps:Array Value} {w:World} {r1 r2:ResultVar} {v1 v2:Value} (hr:fn.results.toList=[r1,r2]) (h1:(resV tmps r1).run P w = .ok v1 w) (h2:(resV tmps r2).run P w = .ok v2 w):(results fn tmps).run P w = .ok (.tuple #[v1,v2]) w:=by
  have hres:results fn tmps=(do let vs <- fn.results.mapM (resV tmps);pure (if h:vs.size=1 then vs[0] else .tuple vs)):=by
    unfold results
    congr 1
  rw [hres,Array.mapM_eq_mapM_toList,Sem.run_bind,Sem.run_map,hr]
  simp only [List.mapM_cons,List.mapM_nil,Sem.run_bind,h1,h2,Result.andThen_ok,Sem.run_pure]
  rfl
theorem results56 {a:Act} {w:World} {b T:Nat} {c0 c1 c2 c3 c4:Value} {e:Int} (h4:tm a 4 = .pointer (some ⟨b,0,none⟩)) (hh:w.heap[b]? = some (.cells #[c0,c1,c2,c3,c4] T (0,0))) (h5:tm a 5 = .int .i64 e):(results Try.f20 a.tmps).run Try.prog w = .ok (.tuple #[.agg #[c0,c1,c2,c3,c4],.int .i64 e]) w:=by
  refine results_pair (r1:=.cell 4 58) (r2:=.tmp 5) (by kernel_rfl) (resV_cell h4 ?_) (congrArg (fun v=>Result.ok v w) h5)
  have:=load_cells (P:=Try.prog) (n:=9) (T:=58) (t:=BOOKT) (w:=w) (b:=b) (off:=0) (us':=[]) (c1:=[c0,c1,c2,c3,c4]) (by kernel_rfl) hh rfl rfl
  rw [this]
  rfl
section
variable {n : Nat} {Q : Exit → Act → World → Prop} {F : Nat → Prop} {M0 : Base} {w0 : World} {s : SB} {st : St} {a : Act} {w : World} {sh : SHT}
theorem conc_b4 (hc:ConcH HB F M0 w0 s st a w) {C:Array Value} (hC:C.size=5):ConcH HB F M0 w0 s st a (w.setRow s.b4 C):=by
  obtain ⟨hf,M,hG⟩:=hc
  have hI:IB s M w:=hG.1
  obtain ⟨C0,e41,e42⟩:=hI.h4
  have hfr:Fr (fun k=>k<w.heap.size/\¬ HB.hb (show HB.σ from s) w k) w (w.setRow s.b4 C):=⟨rfl,rfl,rfl,by rw [setRow_size];exact Nat.le_refl _,fun k hk=>setRow_other fun e=>hk.2 (.inl e)⟩
  have key:∀ w1:World,Fr (fun k=>k<w.heap.size/\¬ HB.hb (show HB.σ from s) w k) w w1->(∀ k,HB.hb (show HB.σ from s) w k->w1.heap[k]? = (w.setRow s.b4 C).heap[k]?)->IB s M w1:=by
    intro w1 hf1 hk
    have hst:Stable M w M w1:=fun b o v e hn=>by
      have hnb:¬ hbB s b:=fun h=>hn ((hG.2.2 b h).2.1 o)
      exact ⟨(World.cell?_of_block (a:=⟨b,o,none⟩) (hf1.block b ⟨cell_lt e,hnb⟩)).trans e,hn⟩
    have hold:∀ b,hbB s b->b≠s.b4->w1.heap[b]? = w.heap[b]? := fun b h hne=>(hk b h).trans (setRow_other hne)
    have hm:∀ {kp vp m},hbB s m->MapAt kp vp m w->MapAt kp vp m w1:=fun hb ⟨es,c,h1,h2⟩=>⟨es,c,(hold _ hb fun e=>by rw [e,e41] at h1;cases h1).trans h1,h2⟩
    exact ⟨⟨C,(hk s.b4 (.inl rfl)).trans (setRow_same e41),hC⟩,(hold _ (.inr (.inl rfl)) fun e=>hI.ne e.symm).trans hI.h6,RepC.mono hst _ _ _ hI.hdr,row_keep hI.row hst fun g hg=>hold g (.inr (.inr (.inr (.inr (.inr hg))))) (hI.nv g hg).1,hm (.inr (.inr (.inl rfl))) hI.m1,hm (.inr (.inr (.inr (.inl rfl)))) hI.m2,hm (.inr (.inr (.inr (.inr (.inl rfl))))) hI.m3,hI.ne,hI.nv,hI.mm⟩
  obtain ⟨f1,hG'⟩:=hG.world (s':=(show HB.σ from s)) hfr (fun w1 _ hf1 hk=>⟨key w1 hf1 hk,fun b h=>h⟩)
  exact ⟨hf.trans f1,M,hG'⟩
theorem row_slice {v:Value} {xs:List (List Int)} {M:Mut} {w:World} (h:RowAt v xs M w):∃ ad cap,v = .slice ad xs.length cap:=by
  obtain ⟨us,h1,h2,h3⟩:=h
  rcases h2.2 with ⟨rfl,h⟩|⟨g,cap,cur,rfl,_⟩
  . rw [h1] at h;exact ⟨none,0,by rw [h]⟩
  . exact ⟨_,cap,by rw [h1]⟩
theorem oneSh {M:Mut} {w:World} {c0 c1:Value} (h:RepC M w SHTY [c0,c1] sh):c0.oneCell'=true/\c1.oneCell'=true:=by
  obtain ⟨l1,l2,e,h1,l3,l4,e2,h2,h3⟩:=h
  obtain ⟨ad,cap,e1,_⟩:=h1
  obtain ⟨ad2,cap2,e3,_⟩:=h2
  have h3:l4=[]:=h3
  subst e1 e3 h3 e2
  simp only [List.cons_append,List.nil_append,List.cons.injEq,and_true] at e
  rw [e.1,e.2]
  exact ⟨rfl,rfl⟩
theorem end56_wp {s0:SB} (hc:ConcH HB F M0 w0 s (stR s0 sh) a w) (hs:sameB s s0=true) (hx:s.xs≠[]) (hxl:s.xs.length<999999999)
    (hQ:∀ a' w',ConcH HB F M0 w0 s (stR s0 sh) a' w'->w'.heap[s.b4]? = some (.cells #[s.c0,s.c1,s.v,.map (some s.m1),.map (some s.m2)] 58 (0,0))->tm a' 4 = .pointer (some ⟨s.b4,0,none⟩)->tm a' 5 = .int .i64 0->Q .ret a' w') :
    (at56 [1,1,1,1,1,1]).wpIn (fen none) n Try.prog Q a w:=by
  obtain ⟨v0,xs0,hse⟩:=sameB_iff.1 hs
  have hb6:s0.b6=s.b6:=by rw [hse]
  have hb4:s0.b4=s.b4:=by rw [hse]
  have t6:tm a 6=ptrV s.b6:=(cell_raw hc (v:=ptrV s0.b6) rfl).trans (by rw [hb6])
  have t4:tm a 4=ptrV s.b4:=(cell_raw hc (v:=ptrV s0.b4) rfl).trans (by rw [hb4])
  have hsz:=conc_size hc (N:=79) rfl
  have hlt:∀ d,d=5\/(60<=d/\d<=78)->get (stR s0 sh) d = .und:=fun d hd=>by
    by_cases h:get (stR s0 sh) d = .und
    . exact h
    . rcases stR_low s0 sh h with e|e|e|e<;>omega
  obtain ⟨M,hI⟩:=conc_IB hc
  obtain ⟨ad,cap,hv⟩:=row_slice hI.row
  rw [end56_at]
  refine wpIn_seq (wpIn_seq ?_)
  refine wpIn_region ?_
  rw [show r56_19.size=4 by kernel_rfl]
  show wpOpsIn (fen none) n Try.prog r56_19 _ [0,1,2,3] a w
  obtain ⟨ox0,ix0,dx0,px0,qx0⟩:=infoAt info56_19 (i:=0) rfl
  simp only at dx0 px0 qx0
  rw [wpOpsIn_cons]
  refine opr_value ix0 (wanted_none qx0) (fun c h=>by rw [px0] at h;cases h) (ex_field98 (k:=1) (off:=2) (.inl ⟨rfl,rfl⟩) px0 t6) ?_
  rw [dx0]
  obtain ⟨ax1,hax1⟩:∃ bb:Act,bb=Act.put a (some 73) (.pointer (some ⟨s.b6,0+2,none⟩)):=⟨_,rfl⟩
  rw [<- hax1]
  have zx1:ax1.tmps.size=79:=by rw [hax1,size_put];exact hsz
  have tx1_73:tm ax1 73 = .pointer (some ⟨s.b6,0+2,none⟩):=by rw [hax1];exact tm_put_same (by omega)
  obtain ⟨ox1,ix1,dx1,px1,qx1⟩:=infoAt info56_19 (i:=1) rfl
  simp only at dx1 px1 qx1
  rw [wpOpsIn_cons]
  refine opr_value ix1 (wanted_none qx1) (fun c h=>by rw [px1] at h;cases h) (ex_loadAt (v:=.slice ad s.xs.length cap) (T:=40) (t:=.list (.list (.int .i64))) (by kernel_rfl) rfl rfl px1 (b:=s.b6) (j:=0+2) tx1_73 (hv ▸ hI.h6) rfl) ?_
  rw [dx1]
  obtain ⟨ax2,hax2⟩:∃ bb:Act,bb=Act.put ax1 (some 74) (.slice ad s.xs.length cap):=⟨_,rfl⟩
  rw [<- hax2]
  have zx2:ax2.tmps.size=79:=by rw [hax2,size_put];exact zx1
  have tx2_74:tm ax2 74 = .slice ad s.xs.length cap:=by rw [hax2];exact tm_put_same (by omega)
  obtain ⟨ox2,ix2,dx2,px2,qx2⟩:=infoAt info56_19 (i:=2) rfl
  simp only at dx2 px2 qx2
  rw [wpOpsIn_cons]
  refine opr_value ix2 (wanted_none qx2) (fun c h=>by rw [px2] at h;cases h) (ex_len (T:=40) (E:=22) (by kernel_rfl) px2 tx2_74) ?_
  rw [dx2]
  obtain ⟨ax3,hax3⟩:∃ bb:Act,bb=Act.put ax2 (some 75) (.int .i64 (s.xs.length:Int)):=⟨_,rfl⟩
  rw [<- hax3]
  have zx3:ax3.tmps.size=79:=by rw [hax3,size_put];exact zx2
  have tx3_75:tm ax3 75 = .int .i64 (s.xs.length:Int):=by rw [hax3];exact tm_put_same (by omega)
  obtain ⟨ox3,ix3,dx3,px3,qx3⟩:=infoAt info56_19 (i:=3) rfl
  simp only at dx3 px3 qx3
  rw [wpOpsIn_cons]
  refine opr_value ix3 (wanted_none qx3) (fun c h=>by rw [px3] at h;cases h) (ex_eqlK px3 tx3_75 (by have:=List.length_pos_iff.2 hx;omega)) ?_
  rw [dx3]
  obtain ⟨ax4,hax4⟩:∃ bb:Act,bb=Act.put ax3 (some 76) (.bool false):=⟨_,rfl⟩
  rw [<- hax4]
  have zx4:ax4.tmps.size=79:=by rw [hax4,size_put];exact zx3
  have tx4_76:tm ax4 76 = .bool false:=by rw [hax4];exact tm_put_same (by omega)
  refine wpIn_cond (t:=false) tx4_76 ?_
  have hc4:ConcH HB F M0 w0 s (stR s0 sh) ax4 w:=(hax4 ▸ free_put (hax3 ▸ free_put (hax2 ▸ free_put (hax1 ▸ free_put hc (hlt 73 (by omega)) _) (hlt 74 (by omega)) _) (hlt 75 (by omega)) _) (hlt 76 (by omega)) _)
  have tx1_6:tm ax1 6 = .pointer (some ⟨s.b6,0,none⟩):=by rw [hax1,tm_put_other (by omega)];exact t6
  have tx2_6:tm ax2 6 = .pointer (some ⟨s.b6,0,none⟩):=by rw [hax2,tm_put_other (by omega)];exact tx1_6
  have tx3_6:tm ax3 6 = .pointer (some ⟨s.b6,0,none⟩):=by rw [hax3,tm_put_other (by omega)];exact tx2_6
  have tx4_6:tm ax4 6 = .pointer (some ⟨s.b6,0,none⟩):=by rw [hax4,tm_put_other (by omega)];exact tx3_6
  have tx1_4:tm ax1 4 = .pointer (some ⟨s.b4,0,none⟩):=by rw [hax1,tm_put_other (by omega)];exact t4
  have tx2_4:tm ax2 4 = .pointer (some ⟨s.b4,0,none⟩):=by rw [hax2,tm_put_other (by omega)];exact tx1_4
  have tx3_4:tm ax3 4 = .pointer (some ⟨s.b4,0,none⟩):=by rw [hax3,tm_put_other (by omega)];exact tx2_4
  have tx4_4:tm ax4 4 = .pointer (some ⟨s.b4,0,none⟩):=by rw [hax4,tm_put_other (by omega)];exact tx3_4
  simp only [Bool.false_eq_true,if_false]
  refine wpIn_skip (wpIn_seq ?_)
  refine wpIn_region ?_
  rw [show r56_21.size=3 by kernel_rfl]
  show wpOpsIn (fen none) n Try.prog r56_21 _ [0,1,2] ax4 w
  obtain ⟨oy0,iy0,dy0,py0,qy0⟩:=infoAt info56_21 (i:=0) rfl
  simp only at dy0 py0 qy0
  rw [wpOpsIn_cons]
  refine opr_value iy0 (wanted_none qy0) (fun c h=>by rw [py0] at h;cases h) (ex_load98 py0 tx4_6 hI.h6) ?_
  rw [dy0]
  obtain ⟨ay1,hay1⟩:∃ bb:Act,bb=Act.put ax4 (some 78) (.agg #[s.c0,s.c1,s.v,.map (some s.m1),.map (some s.m2)]):=⟨_,rfl⟩
  rw [<- hay1]
  have zy1:ay1.tmps.size=79:=by rw [hay1,size_put];exact zx4
  have hones:∀ v∈[s.c0,s.c1,s.v,.map (some s.m1),.map (some s.m2)],v.oneCell'=true:=fun v hv'=>by
    have h1:=oneSh hI.hdr
    simp only [List.mem_cons,List.not_mem_nil,or_false] at hv'
    rcases hv' with rfl|rfl|rfl|rfl|rfl
    . exact h1.1
    . exact h1.2
    . rw [hv];rfl
    . rfl
    . rfl
  obtain ⟨C4,e41,e42⟩:=hI.h4
  have ty1_4:tm ay1 4 = .pointer (some ⟨s.b4,0,none⟩):=by rw [hay1,tm_put_other (by omega)];exact tx4_4
  have ty1_78:tm ay1 78 = .agg #[s.c0,s.c1,s.v,.map (some s.m1),.map (some s.m2)]:=by rw [hay1];exact tm_put_same (by omega)
  obtain ⟨oy1,iy1,dy1,py1,qy1⟩:=infoAt info56_21 (i:=1) rfl
  simp only at dy1 py1 qy1
  rw [wpOpsIn_cons]
  refine opr_skipped iy1 (wanted_none qy1) (fun c h=>by rw [py1] at h;cases h) (ex_store98 py1 ty1_4 ty1_78 e41 e42 hones) ?_
  rw [dy1,put_none]
  obtain ⟨oy2,iy2,dy2,py2,qy2⟩:=infoAt info56_21 (i:=2) rfl
  simp only at dy2 py2 qy2
  rw [wpOpsIn_cons]
  refine opr_value iy2 (wanted_none qy2) (fun c h=>by rw [py2] at h;cases h) (ex_assignK py2) ?_
  rw [dy2]
  obtain ⟨ay2,hay2⟩:∃ bb:Act,bb=Act.put ay1 (some 5) (.int .i64 0):=⟨_,rfl⟩
  rw [<- hay2]
  have zy2:ay2.tmps.size=79:=by rw [hay2,size_put];exact zy1
  have hcn:ConcH HB F M0 w0 s (stR s0 sh) ax4 (w.setRow s.b4 #[s.c0,s.c1,s.v,.map (some s.m1),.map (some s.m2)]):=conc_b4 hc4 rfl
  have ty2_4:tm ay2 4 = .pointer (some ⟨s.b4,0,none⟩):=by rw [hay2,tm_put_other (by omega)];exact ty1_4
  have ty2_5:tm ay2 5 = .int .i64 0:=by rw [hay2];exact tm_put_same (by omega)
  exact wpIn_ret (hQ _ _ (hay2 ▸ free_put (hay1 ▸ free_put hcn (hlt 78 (by omega)) _) (hlt 5 (by omega)) _) (setRow_same e41) ty2_4 ty2_5)
end
end Go.V
namespace Go.V
open Go.Proofs
open Go.RowKit (Below)
section
variable {n : Nat} {Q : Exit → Act → World → Prop} {M : Mut} {w : World} {v0 : Value} {sh : SHT}
set_option maxHeartbeats 2000000 in
theorem front56 (hrep:RepV M w SHTY v0 sh) (hlt:∀ b o,M b o->b<w.heap.size) (hN:∀ (s0:SB) a w',s0.xs=[]->s0.sh=sh->ConcH HB (· < w.heap.size) (base0 M w) w s0 (st56 s0 sh) a w'->(at56 [1,1,1,1]).wpIn (fen none) n Try.prog Q a w') :
    (bodyOf Try.f20).wpIn (fen none) n Try.prog Q { tmps := #[v0,.bool true]++Array.replicate (79 - 2) undef,defers:=[] } w:=by
  obtain ⟨cs,rfl,hc⟩:=hrep
  obtain ⟨x0,x1,rfl⟩:∃ x0 x1,cs=[x0,x1]:=by
    have hl:cs.length=2:=RepC.length _ _ _ hc
    match cs,hl with
    | [x0,x1],_=>exact ⟨x0,x1,rfl⟩
  obtain ⟨a0,ha0⟩:∃ a0:Act,a0={ tmps := #[toVal SHTY [x0,x1],.bool true]++Array.replicate (79 - 2) undef,defers:=[] }:=⟨_,rfl⟩
  rw [<- ha0]
  have z0:a0.tmps.size=79:=by rw [ha0];simp
  have t0:tm a0 0 = .agg #[x0,x1]:=by rw [ha0];simp [tm,toVal,Ty.agg]
  have t1:tm a0 1 = .bool true:=by rw [ha0];simp [tm]
  have hd0:a0.defers=[]:=by rw [ha0]
  rw [body56_at]
  refine wpIn_seq ?_
  refine wpIn_region ?_
  rw [show r56_0.size=3 by kernel_rfl]
  show wpOpsIn (fen none) n Try.prog r56_0 _ [0,1,2] a0 w
  obtain ⟨or0,ir0,dr0,pr0,qr0⟩:=infoAt info56_0 (i:=0) rfl
  simp only at dr0 pr0 qr0
  rw [wpOpsIn_cons]
  refine opr_value ir0 (wanted_none qr0) (fun c h=>by rw [pr0] at h;cases h) (ex_box67 pr0 t0) ?_
  rw [dr0]
  obtain ⟨ar1,har1⟩:∃ bb:Act,bb=Act.put a0 (some 2) (.pointer (some ⟨w.heap.size,0,none⟩)):=⟨_,rfl⟩
  rw [<- har1]
  have zr1:ar1.tmps.size=79:=by rw [har1,size_put];exact z0
  obtain ⟨w1,hw1⟩:∃ b:World,b=w.alloc (.cells #[x0,x1] 42):=⟨_,rfl⟩
  rw [<- hw1]
  have l1:w1.heap.size=w.heap.size+1:=by rw [hw1];simp
  obtain ⟨or1,ir1,dr1,pr1,qr1⟩:=infoAt info56_0 (i:=1) rfl
  simp only at dr1 pr1 qr1
  rw [wpOpsIn_cons]
  refine opr_value ir1 (wanted_none qr1) (fun c h=>by rw [pr1] at h;cases h) (ex_alloc98 pr1) ?_
  rw [dr1]
  obtain ⟨ar2,har2⟩:∃ bb:Act,bb=Act.put ar1 (some 4) (.pointer (some ⟨w1.heap.size,0,none⟩)):=⟨_,rfl⟩
  rw [<- har2]
  have zr2:ar2.tmps.size=79:=by rw [har2,size_put];exact zr1
  obtain ⟨w2,hw2⟩:∃ b:World,b=w1.alloc (.cells Z98 58):=⟨_,rfl⟩
  rw [<- hw2]
  have l2:w2.heap.size=w.heap.size+2:=by rw [hw2];simp;omega
  obtain ⟨or2,ir2,dr2,pr2,qr2⟩:=infoAt info56_0 (i:=2) rfl
  simp only at dr2 pr2 qr2
  rw [wpOpsIn_cons]
  refine opr_value ir2 (wanted_none qr2) (fun c h=>by rw [pr2] at h;cases h) (ex_assignK pr2) ?_
  rw [dr2]
  obtain ⟨ar3,har3⟩:∃ bb:Act,bb=Act.put ar2 (some 5) (.int .i64 0):=⟨_,rfl⟩
  rw [<- har3]
  have zr3:ar3.tmps.size=79:=by rw [har3,size_put];exact zr2
  refine wpIn_seq (wpIn_seq ?_)
  have tr1_0:tm ar1 0 = .agg #[x0,x1]:=by rw [har1,tm_put_other (by omega)];exact t0
  have tr2_0:tm ar2 0 = .agg #[x0,x1]:=by rw [har2,tm_put_other (by omega)];exact tr1_0
  have tr3_0:tm ar3 0 = .agg #[x0,x1]:=by rw [har3,tm_put_other (by omega)];exact tr2_0
  have tr1_1:tm ar1 1 = .bool true:=by rw [har1,tm_put_other (by omega)];exact t1
  have tr2_1:tm ar2 1 = .bool true:=by rw [har2,tm_put_other (by omega)];exact tr1_1
  have tr3_1:tm ar3 1 = .bool true:=by rw [har3,tm_put_other (by omega)];exact tr2_1
  have tr1_2:tm ar1 2 = .pointer (some ⟨w.heap.size,0,none⟩):=by rw [har1];exact tm_put_same (by omega)
  have tr2_2:tm ar2 2 = .pointer (some ⟨w.heap.size,0,none⟩):=by rw [har2,tm_put_other (by omega)];exact tr1_2
  have tr3_2:tm ar3 2 = .pointer (some ⟨w.heap.size,0,none⟩):=by rw [har3,tm_put_other (by omega)];exact tr2_2
  have tr2_4:tm ar2 4 = .pointer (some ⟨w1.heap.size,0,none⟩):=by rw [har2];exact tm_put_same (by omega)
  have tr3_4:tm ar3 4 = .pointer (some ⟨w1.heap.size,0,none⟩):=by rw [har3,tm_put_other (by omega)];exact tr2_4
  refine wpIn_region ?_
  rw [show r56_1.size=2 by kernel_rfl]
  show wpOpsIn (fen none) n Try.prog r56_1 _ [0,1] ar3 w2
  obtain ⟨os0,is0,ds0,ps0,qs0⟩:=infoAt info56_1 (i:=0) rfl
  simp only at ds0 ps0 qs0
  rw [wpOpsIn_cons]
  refine opr_value is0 (wanted_none qs0) (fun c h=>by rw [ps0] at h;cases h) (ex_move ps0) ?_
  rw [ds0,tr3_1]
  obtain ⟨as1,has1⟩:∃ bb:Act,bb=Act.put ar3 (some 12) (.bool true):=⟨_,rfl⟩
  rw [<- has1]
  have zs1:as1.tmps.size=79:=by rw [has1,size_put];exact zr3
  have ts1_12:tm as1 12 = .bool true:=by rw [has1];exact tm_put_same (by omega)
  obtain ⟨os1,is1,ds1,ps1,qs1⟩:=infoAt info56_1 (i:=1) rfl
  simp only at ds1 ps1 qs1
  rw [wpOpsIn_cons]
  refine opr_value is1 (wanted_none qs1) (fun c h=>by rw [ps1] at h;cases h) (ex_not ps1 ts1_12) ?_
  rw [ds1]
  obtain ⟨as2,has2⟩:∃ bb:Act,bb=Act.put as1 (some 13) (.bool (!true)):=⟨_,rfl⟩
  rw [<- has2]
  have zs2:as2.tmps.size=79:=by rw [has2,size_put];exact zs1
  have ts1_2:tm as1 2 = .pointer (some ⟨w.heap.size,0,none⟩):=by rw [has1,tm_put_other (by omega)];exact tr3_2
  have ts2_2:tm as2 2 = .pointer (some ⟨w.heap.size,0,none⟩):=by rw [has2,tm_put_other (by omega)];exact ts1_2
  have ts1_4:tm as1 4 = .pointer (some ⟨w1.heap.size,0,none⟩):=by rw [has1,tm_put_other (by omega)];exact tr3_4
  have ts2_4:tm as2 4 = .pointer (some ⟨w1.heap.size,0,none⟩):=by rw [has2,tm_put_other (by omega)];exact ts1_4
  have ts2_13:tm as2 13 = .bool (!true):=by rw [has2];exact tm_put_same (by omega)
  refine wpIn_cond (t:=false) ts2_13 ?_
  simp only [Bool.false_eq_true,if_false]
  refine wpIn_skip (wpIn_seq ?_)
  refine wpIn_region ?_
  rw [show r56_3.size=6 by kernel_rfl]
  show wpOpsIn (fen none) n Try.prog r56_3 _ [0,1,2,3,4,5] as2 w2
  have c2:w2.heap[w.heap.size]? = some (.cells #[x0,x1] 42 (0,0)):=by rw [hw2,heap_alloc_old w1 _ (by omega),hw1];exact heap_alloc_new w _
  obtain ⟨ot0,it0,dt0,pt0,qt0⟩:=infoAt info56_3 (i:=0) rfl
  simp only at dt0 pt0 qt0
  rw [wpOpsIn_cons]
  refine opr_value it0 (wanted_none qt0) (fun c h=>by rw [pt0] at h;cases h) (ex_load67 pt0 ts2_2 c2) ?_
  rw [dt0]
  obtain ⟨at1,hat1⟩:∃ bb:Act,bb=Act.put as2 (some 15) (.agg #[x0,x1]):=⟨_,rfl⟩
  rw [<- hat1]
  have zt1:at1.tmps.size=79:=by rw [hat1,size_put];exact zs2
  obtain ⟨ot1,it1,dt1,pt1,qt1⟩:=infoAt info56_3 (i:=1) rfl
  simp only at dt1 pt1 qt1
  rw [wpOpsIn_cons]
  refine opr_value it1 (wanted_none qt1) (fun c h=>by rw [pt1] at h;cases h) (ex_makeMap pt1) ?_
  rw [dt1]
  obtain ⟨at2,hat2⟩:∃ bb:Act,bb=Act.put at1 (some 16) (.map (some w2.heap.size)):=⟨_,rfl⟩
  rw [<- hat2]
  have zt2:at2.tmps.size=79:=by rw [hat2,size_put];exact zt1
  obtain ⟨w3,hw3⟩:∃ b:World,b=w2.alloc (.map #[] 0):=⟨_,rfl⟩
  rw [<- hw3]
  have l3:w3.heap.size=w.heap.size+3:=by rw [hw3];simp;omega
  obtain ⟨ot2,it2,dt2,pt2,qt2⟩:=infoAt info56_3 (i:=2) rfl
  simp only at dt2 pt2 qt2
  rw [wpOpsIn_cons]
  refine opr_value it2 (wanted_none qt2) (fun c h=>by rw [pt2] at h;cases h) (ex_makeMap pt2) ?_
  rw [dt2]
  obtain ⟨at3,hat3⟩:∃ bb:Act,bb=Act.put at2 (some 17) (.map (some w3.heap.size)):=⟨_,rfl⟩
  rw [<- hat3]
  have zt3:at3.tmps.size=79:=by rw [hat3,size_put];exact zt2
  obtain ⟨w4,hw4⟩:∃ b:World,b=w3.alloc (.map #[] 0):=⟨_,rfl⟩
  rw [<- hw4]
  have l4:w4.heap.size=w.heap.size+4:=by rw [hw4];simp;omega
  have tt1_15:tm at1 15 = .agg #[x0,x1]:=by rw [hat1];exact tm_put_same (by omega)
  have tt2_15:tm at2 15 = .agg #[x0,x1]:=by rw [hat2,tm_put_other (by omega)];exact tt1_15
  have tt3_15:tm at3 15 = .agg #[x0,x1]:=by rw [hat3,tm_put_other (by omega)];exact tt2_15
  have tt2_16:tm at2 16 = .map (some w2.heap.size):=by rw [hat2];exact tm_put_same (by omega)
  have tt3_16:tm at3 16 = .map (some w2.heap.size):=by rw [hat3,tm_put_other (by omega)];exact tt2_16
  have tt3_17:tm at3 17 = .map (some w3.heap.size):=by rw [hat3];exact tm_put_same (by omega)
  obtain ⟨ot3,it3,dt3,pt3,qt3⟩:=infoAt info56_3 (i:=3) rfl
  simp only at dt3 pt3 qt3
  rw [wpOpsIn_cons]
  refine opr_value it3 (wanted_none qt3) (fun c h=>by rw [pt3] at h;cases h) (ex_build98 pt3 tt3_15 tt3_16 tt3_17) ?_
  rw [dt3]
  obtain ⟨at4,hat4⟩:∃ bb:Act,bb=Act.put at3 (some 18) (.agg #[x0,x1,.slice none 0 0,.map (some w2.heap.size),.map (some w3.heap.size)]):=⟨_,rfl⟩
  rw [<- hat4]
  have zt4:at4.tmps.size=79:=by rw [hat4,size_put];exact zt3
  obtain ⟨ot4,it4,dt4,pt4,qt4⟩:=infoAt info56_3 (i:=4) rfl
  simp only at dt4 pt4 qt4
  rw [wpOpsIn_cons]
  refine opr_value it4 (wanted_none qt4) (fun c h=>by rw [pt4] at h;cases h) (ex_alloc98 pt4) ?_
  rw [dt4]
  obtain ⟨at5,hat5⟩:∃ bb:Act,bb=Act.put at4 (some 6) (.pointer (some ⟨w4.heap.size,0,none⟩)):=⟨_,rfl⟩
  rw [<- hat5]
  have zt5:at5.tmps.size=79:=by rw [hat5,size_put];exact zt4
  obtain ⟨w5,hw5⟩:∃ b:World,b=w4.alloc (.cells Z98 58):=⟨_,rfl⟩
  rw [<- hw5]
  have l5:w5.heap.size=w.heap.size+5:=by rw [hw5];simp;omega
  have c5:w5.heap[w4.heap.size]? = some (.cells Z98 58 (0,0)):=by rw [hw5];exact heap_alloc_new w4 _
  have hone:=oneSh hc
  have hones:∀ v∈[x0,x1,.slice none 0 0,.map (some w2.heap.size),.map (some w3.heap.size)],v.oneCell'=true:=fun v hv'=>by
    simp only [List.mem_cons,List.not_mem_nil,or_false] at hv'
    rcases hv' with rfl|rfl|rfl|rfl|rfl
    . exact hone.1
    . exact hone.2
    . rfl
    . rfl
    . rfl
  have tt5_6:tm at5 6 = .pointer (some ⟨w4.heap.size,0,none⟩):=by rw [hat5];exact tm_put_same (by omega)
  have tt4_18:tm at4 18 = .agg #[x0,x1,.slice none 0 0,.map (some w2.heap.size),.map (some w3.heap.size)]:=by rw [hat4];exact tm_put_same (by omega)
  have tt5_18:tm at5 18 = .agg #[x0,x1,.slice none 0 0,.map (some w2.heap.size),.map (some w3.heap.size)]:=by rw [hat5,tm_put_other (by omega)];exact tt4_18
  obtain ⟨ot5,it5,dt5,pt5,qt5⟩:=infoAt info56_3 (i:=5) rfl
  simp only at dt5 pt5 qt5
  rw [wpOpsIn_cons]
  refine opr_skipped it5 (wanted_none qt5) (fun c h=>by rw [pt5] at h;cases h) (ex_store98 pt5 tt5_6 tt5_18 c5 rfl hones) ?_
  rw [dt5,put_none]
  obtain ⟨w6,hw6⟩:∃ b:World,b=w5.setRow w4.heap.size #[x0,x1,.slice none 0 0,.map (some w2.heap.size),.map (some w3.heap.size)]:=⟨_,rfl⟩
  rw [<- hw6]
  have l6:w6.heap.size=w.heap.size+5:=by rw [hw6,setRow_size];exact l5
  have tt1_2:tm at1 2 = .pointer (some ⟨w.heap.size,0,none⟩):=by rw [hat1,tm_put_other (by omega)];exact ts2_2
  have tt2_2:tm at2 2 = .pointer (some ⟨w.heap.size,0,none⟩):=by rw [hat2,tm_put_other (by omega)];exact tt1_2
  have tt3_2:tm at3 2 = .pointer (some ⟨w.heap.size,0,none⟩):=by rw [hat3,tm_put_other (by omega)];exact tt2_2
  have tt4_2:tm at4 2 = .pointer (some ⟨w.heap.size,0,none⟩):=by rw [hat4,tm_put_other (by omega)];exact tt3_2
  have tt5_2:tm at5 2 = .pointer (some ⟨w.heap.size,0,none⟩):=by rw [hat5,tm_put_other (by omega)];exact tt4_2
  have tt1_4:tm at1 4 = .pointer (some ⟨w1.heap.size,0,none⟩):=by rw [hat1,tm_put_other (by omega)];exact ts2_4
  have tt2_4:tm at2 4 = .pointer (some ⟨w1.heap.size,0,none⟩):=by rw [hat2,tm_put_other (by omega)];exact tt1_4
  have tt3_4:tm at3 4 = .pointer (some ⟨w1.heap.size,0,none⟩):=by rw [hat3,tm_put_other (by omega)];exact tt2_4
  have tt4_4:tm at4 4 = .pointer (some ⟨w1.heap.size,0,none⟩):=by rw [hat4,tm_put_other (by omega)];exact tt3_4
  have tt5_4:tm at5 4 = .pointer (some ⟨w1.heap.size,0,none⟩):=by rw [hat5,tm_put_other (by omega)];exact tt4_4
  refine wpIn_seq ?_
  refine wpIn_region ?_
  rw [show r56_4.size=3 by kernel_rfl]
  show wpOpsIn (fen none) n Try.prog r56_4 _ [0,1,2] at5 w6
  obtain ⟨ou0,iu0,du0,pu0,qu0⟩:=infoAt info56_4 (i:=0) rfl
  simp only at du0 pu0 qu0
  rw [wpOpsIn_cons]
  refine opr_value iu0 (wanted_none qu0) (fun c h=>by rw [pu0] at h;cases h) (ex_makeMap pu0) ?_
  rw [du0]
  obtain ⟨au1,hau1⟩:∃ bb:Act,bb=Act.put at5 (some 19) (.map (some w6.heap.size)):=⟨_,rfl⟩
  rw [<- hau1]
  have zu1:au1.tmps.size=79:=by rw [hau1,size_put];exact zt5
  obtain ⟨w7,hw7⟩:∃ b:World,b=w6.alloc (.map #[] 0):=⟨_,rfl⟩
  rw [<- hw7]
  have l7:w7.heap.size=w.heap.size+6:=by rw [hw7];simp;omega
  obtain ⟨ou1,iu1,du1,pu1,qu1⟩:=infoAt info56_4 (i:=1) rfl
  simp only at du1 pu1 qu1
  rw [wpOpsIn_cons]
  refine opr_value iu1 (wanted_none qu1) (fun c h=>by rw [pu1] at h;cases h) (ex_alloc91 pu1) ?_
  rw [du1]
  obtain ⟨au2,hau2⟩:∃ bb:Act,bb=Act.put au1 (some 7) (.pointer (some ⟨w7.heap.size,0,none⟩)):=⟨_,rfl⟩
  rw [<- hau2]
  have zu2:au2.tmps.size=79:=by rw [hau2,size_put];exact zu1
  obtain ⟨w8,hw8⟩:∃ b:World,b=w7.alloc (.cells #[.map none] 83):=⟨_,rfl⟩
  rw [<- hw8]
  have l8:w8.heap.size=w.heap.size+7:=by rw [hw8];simp;omega
  have c8:w8.heap[w7.heap.size]? = some (.cells #[.map none] 83 (0,0)):=by rw [hw8];exact heap_alloc_new w7 _
  have tu2_7:tm au2 7 = .pointer (some ⟨w7.heap.size,0,none⟩):=by rw [hau2];exact tm_put_same (by omega)
  have tu1_19:tm au1 19 = .map (some w6.heap.size):=by rw [hau1];exact tm_put_same (by omega)
  have tu2_19:tm au2 19 = .map (some w6.heap.size):=by rw [hau2,tm_put_other (by omega)];exact tu1_19
  obtain ⟨ou2,iu2,du2,pu2,qu2⟩:=infoAt info56_4 (i:=2) rfl
  simp only at du2 pu2 qu2
  rw [wpOpsIn_cons]
  refine opr_skipped iu2 (wanted_none qu2) (fun c h=>by rw [pu2] at h;cases h) (ex_store1 (t:=.opq) (by kernel_rfl) rfl pu2 tu2_7 tu2_19 rfl rfl c8) ?_
  rw [du2,put_none]
  obtain ⟨w9,hw9⟩:∃ b:World,b=w8.setRow w7.heap.size #[.map (some w6.heap.size)]:=⟨_,rfl⟩
  rw [<- hw9]
  have tu1_2:tm au1 2 = .pointer (some ⟨w.heap.size,0,none⟩):=by rw [hau1,tm_put_other (by omega)];exact tt5_2
  have tu2_2:tm au2 2 = .pointer (some ⟨w.heap.size,0,none⟩):=by rw [hau2,tm_put_other (by omega)];exact tu1_2
  have tu1_4:tm au1 4 = .pointer (some ⟨w1.heap.size,0,none⟩):=by rw [hau1,tm_put_other (by omega)];exact tt5_4
  have tu2_4:tm au2 4 = .pointer (some ⟨w1.heap.size,0,none⟩):=by rw [hau2,tm_put_other (by omega)];exact tu1_4
  have tu1_6:tm au1 6 = .pointer (some ⟨w4.heap.size,0,none⟩):=by rw [hau1,tm_put_other (by omega)];exact tt5_6
  have tu2_6:tm au2 6 = .pointer (some ⟨w4.heap.size,0,none⟩):=by rw [hau2,tm_put_other (by omega)];exact tu1_6
  have zL:au2.tmps.size=79:=zu2
  have dL:au2.defers=[]:=by rw [hau2,defers_put,hau1,defers_put,hat5,defers_put,hat4,defers_put,hat3,defers_put,hat2,defers_put,hat1,defers_put,has2,defers_put,has1,defers_put,har3,defers_put,har2,defers_put,har1,defers_put,hd0]
  obtain ⟨s0,hs0⟩:∃ s0:SB,s0={ b4:=w1.heap.size,b6:=w4.heap.size,m1:=w2.heap.size,m2:=w3.heap.size,m3:=w6.heap.size,v:=.slice none 0 0,c0:=x0,c1:=x1,sh:=sh,xs:=[] }:=⟨_,rfl⟩
  refine hN s0 _ w9 (by rw [hs0]) (by rw [hs0]) ?_
  have l9:w9.heap.size=w.heap.size+7:=by rw [hw9,setRow_size];exact l8
  have k9:∀ k,k≠w7.heap.size->w9.heap[k]? = w8.heap[k]? := fun k h=>by rw [hw9];exact setRow_other h
  have k8:∀ k,k<w7.heap.size->w8.heap[k]? = w7.heap[k]? := fun k h=>by rw [hw8];exact heap_alloc_old w7 _ h
  have k7:∀ k,k<w6.heap.size->w7.heap[k]? = w6.heap[k]? := fun k h=>by rw [hw7];exact heap_alloc_old w6 _ h
  have k6:∀ k,k≠w4.heap.size->w6.heap[k]? = w5.heap[k]? := fun k h=>by rw [hw6];exact setRow_other h
  have k5:∀ k,k<w4.heap.size->w5.heap[k]? = w4.heap[k]? := fun k h=>by rw [hw5];exact heap_alloc_old w4 _ h
  have k4:∀ k,k<w3.heap.size->w4.heap[k]? = w3.heap[k]? := fun k h=>by rw [hw4];exact heap_alloc_old w3 _ h
  have k3:∀ k,k<w2.heap.size->w3.heap[k]? = w2.heap[k]? := fun k h=>by rw [hw3];exact heap_alloc_old w2 _ h
  have k2:∀ k,k<w1.heap.size->w2.heap[k]? = w1.heap[k]? := fun k h=>by rw [hw2];exact heap_alloc_old w1 _ h
  have k1:∀ k,k<w.heap.size->w1.heap[k]? = w.heap[k]? := fun k h=>by rw [hw1];exact heap_alloc_old w _ h
  have old:∀ k,k<w4.heap.size->w9.heap[k]? = w4.heap[k]? := fun k h=>by rw [k9 k (by omega),k8 k (by omega),k7 k (by omega),k6 k (by omega),k5 k h]
  have b2:w9.heap[w.heap.size]? = some (.cells #[x0,x1] 42 (0,0)):=by rw [old _ (by omega),k4 _ (by omega),k3 _ (by omega)];exact c2
  have b4:w9.heap[w1.heap.size]? = some (.cells Z98 58 (0,0)):=by rw [old _ (by omega),k4 _ (by omega),k3 _ (by omega),hw2];exact heap_alloc_new w1 _
  have bm1:w9.heap[w2.heap.size]? = some (.map #[] 0):=by rw [old _ (by omega),k4 _ (by omega),hw3];exact heap_alloc_new w2 _
  have bm2:w9.heap[w3.heap.size]? = some (.map #[] 0):=by rw [old _ (by omega),hw4];exact heap_alloc_new w3 _
  have b6:w9.heap[w4.heap.size]? = some (.cells #[x0,x1,.slice none 0 0,.map (some w2.heap.size),.map (some w3.heap.size)] 58 (0,0)):=by rw [k9 _ (by omega),k8 _ (by omega),k7 _ (by omega),hw6];exact setRow_same c5
  have bm3:w9.heap[w6.heap.size]? = some (.map #[] 0):=by rw [k9 _ (by omega),k8 _ (by omega),hw7];exact heap_alloc_new w6 _
  have b7:w9.heap[w7.heap.size]? = some (.cells #[.map (some w6.heap.size)] 83 (0,0)):=by rw [hw9];exact setRow_same c8
  have hold:∀ k,k<w.heap.size->w9.heap[k]? = w.heap[k]? := fun k h=>by rw [old k (by omega),k4 k (by omega),k3 k (by omega),k2 k (by omega),k1 k h]
  have hfr:Fr (· < w.heap.size) w w9:=by
    refine ⟨?_,?_,?_,by omega,hold⟩
    all_goals (rw [hw9,hw8,hw7,hw6,hw5,hw4,hw3,hw2,hw1];rfl)
  obtain ⟨M',hM'⟩:∃ M':Mut,M'=fun b o=>M b o\/b=w1.heap.size\/b=w2.heap.size\/b=w3.heap.size\/b=w4.heap.size\/b=w6.heap.size:=⟨_,rfl⟩
  have hst:Stable M w M' w9:=fun b o v e h=>by
    have hb:=cell_lt e
    refine ⟨(World.cell?_of_block (a:=⟨b,o,none⟩) (hold b hb)).trans e,fun h'=>?_⟩
    rw [hM'] at h'
    rcases h' with h'|h'|h'|h'|h'|h'
    . exact h h'
    all_goals omega
  have hq:∀ j,qs (get (st56 s0 sh) j)=true:=fun j=>by
    by_cases hj:j<79
    . have h1:((List.range 79).all fun k=>qs (get (st56 s0 sh) k))=true:=by rfl
      exact List.all_eq_true.1 h1 j (List.mem_range.2 hj)
    . have hl:(st56 s0 sh).length=79:=rfl
      unfold get
      rw [List.getD_eq_getElem?_getD,List.getElem?_eq_none (by rw [hl];omega)]
      rfl
  have hmo:MapOK kpP vpB #[]:=fun e he=>by simp at he
  have hmo2:MapOK kpI vpB #[]:=fun e he=>by simp at he
  have hmo3:MapOK kpI vpI #[]:=fun e he=>by simp at he
  have hnM:∀ b o,w.heap.size<=b->b≠w1.heap.size->b≠w2.heap.size->b≠w3.heap.size->b≠w4.heap.size->b≠w6.heap.size->¬ M' b o:=fun b o h1 h2 h3 h4 h5 h6 h=>by
    rw [hM'] at h
    rcases h with h|h|h|h|h|h
    . have:=hlt b o h;omega
    all_goals omega
  have hIB:IB s0 M' w9:=by
    subst hs0
    exact ⟨⟨_,b4,rfl⟩,b6,RepC.mono hst _ _ _ hc,⟨[],rfl,⟨rfl,.inl ⟨rfl,rfl⟩⟩,fun j u l h=>by simp at h⟩,⟨_,_,bm1,hmo⟩,⟨_,_,bm2,hmo2⟩,⟨_,_,bm3,hmo3⟩,by show w1.heap.size≠w4.heap.size;omega,fun g h=>(by cases h),⟨by show w2.heap.size≠w3.heap.size;omega,by show w2.heap.size≠w6.heap.size;omega,by show w3.heap.size≠w6.heap.size;omega⟩⟩
  have hbl:∀ b,hbB s0 b->b=w1.heap.size\/b=w4.heap.size\/b=w2.heap.size\/b=w3.heap.size\/b=w6.heap.size:=fun b hb=>by
    subst hs0
    rcases hb with h|h|h|h|h|h
    . exact .inl h
    . exact .inr (.inl h)
    . exact .inr (.inr (.inl h))
    . exact .inr (.inr (.inr (.inl h)))
    . exact .inr (.inr (.inr (.inr h)))
    . cases h
  refine ⟨hfr,M',hIB,⟨by rw [dL];trivial,zL.trans rfl,fun b hb=>by have:b<w.heap.size:=hb;omega,fun b o h=>hlt b o h,fun b o h=>by rw [hM'];exact .inl h,fun b o h=>?_,fun b o hF h=>?_,fun j=>?_,fun i k j l b h1 _=>absurd h1 (qs_owns hq),fun i k b h1=>absurd h1 (qs_owns hq),hst,fun j v hj=>(by cases hj),fun D hD=>Nat.le_of_not_lt hD⟩,fun b hb=>?_⟩
  . rw [hM'] at h
    rcases h with h|h|h|h|h|h
    . have:=hlt b o h;omega
    all_goals omega
  . rw [hM'] at h
    have hF:b<w.heap.size:=hF
    rcases h with h|h|h|h|h|h
    . exact h
    all_goals omega
  . by_cases hj:j=2\/j=4\/j=6\/j=7
    . rcases hj with rfl|rfl|rfl|rfl
      . refine ⟨w.heap.size,0,[x0,x1],tu2_2,rfl,fun k hk=>?_,RepC.mono hst _ _ _ hc⟩
        refine ⟨?_,hnM _ _ (by omega) (by omega) (by omega) (by omega) (by omega) (by omega)⟩
        rw [cell_of_row w9 _ _ _ _ _ b2,Nat.zero_add]
        match k,hk with
        | 0,_=>rfl
        | 1,_=>rfl
      . subst hs0
        exact ⟨[_],tu2_4,rfl,rfl,rfl⟩
      . subst hs0
        exact ⟨[_],tu2_6,rfl,rfl,rfl⟩
      . subst hs0
        refine ⟨w7.heap.size,0,[.map (some w6.heap.size)],tu2_7,rfl,fun k hk=>?_,rfl,rfl,rfl⟩
        refine ⟨?_,hnM _ _ (by omega) (by omega) (by omega) (by omega) (by omega) (by omega)⟩
        rw [cell_of_row w9 _ _ _ _ _ b7,Nat.zero_add]
        match k,hk with
        | 0,_=>rfl
    . have e:get (st56 s0 sh) j = .und:=by
        by_cases h8:j<8
        . have:j=0\/j=1\/j=3\/j=5:=by omega
          rcases this with rfl|rfl|rfl|rfl<;>rfl
        . have e1:st56 s0 sh=[.und,.und,.ref SHTY sh,.und,.d .raw (ptrV s0.b4),.und,.d .raw (ptrV s0.b6),.ref .raw (.map (some s0.m3))]++List.replicate 71 .und:=rfl
          rw [e1]
          unfold get
          rw [List.getD_eq_getElem?_getD,List.getElem?_append_right (by show 8<=j;omega),List.getElem?_replicate]
          split<;>rfl
      rw [e];trivial
  . have hb':=hbl b hb
    refine ⟨fun hF=>?_,fun o=>?_,fun i k ho=>absurd ho (qs_owns hq)⟩
    . have hF:b<w.heap.size:=hF
      omega
    . rw [hM']
      rcases hb' with h|h|h|h|h
      . exact .inr (.inl h)
      . exact .inr (.inr (.inr (.inr (.inl h))))
      . exact .inr (.inr (.inl h))
      . exact .inr (.inr (.inr (.inl h)))
      . exact .inr (.inr (.inr (.inr (.inr h))))
end
end Go.V
namespace Go.V
open Go.Proofs
open Go.RowKit (Below)
noncomputable def P56 (sh:SHT):Nat->Int->Out Unit
  | 0,_=>.fail
  | n+1,t=>match decide (t<lenI (List.getD sh.1 (0:Int).toNat ([]:List Int))) with
    | true=>match f84 (sh,(t,())) with
      | .ret _=>bif rng t then P56 sh n (IntKind.i64.wrap (t+(1:Int))) else .fail
      | _=>.fail
    | false=>.ret ()
theorem l56_plain (N:Nat) (s0:SB) (sh:SHT):∀ (n:Nat) (t:Int),P56 sh n t = .ret ()->L56m_0 N n s0 sh t = .ret ():=by
  intro n
  induction n with
  | zero=>intro t h;cases h
  | succ n ih =>
    intro t h
    rw [L56m_0_succ]
    unfold P56 at h
    cases hd:decide (t<lenI (List.getD sh.1 (0:Int).toNat ([]:List Int))) with
    | true =>
      rw [hd] at h
      dsimp only at h ⊢
      cases hf:f84 (sh,(t,())) with
      | ret r =>
        rw [hf] at h
        dsimp only at h ⊢
        rw [isV_refl,Bool.true_and]
        cases hr:rng t with
        | true=>rw [hr] at h;exact ih _ h
        | false=>rw [hr] at h;cases h
      | pan p=>rw [hf] at h;cases h
      | fail=>rw [hf] at h;cases h
    | false =>
      show (bif (same _ _ && (same s0 s0 && (isV _ _ && (isV _ _ && isV _ _)))) then _ else _)=_
      simp only [isV_refl,same_refl,Bool.and_self]
      rfl
noncomputable def P112 (sh:SHT):Nat->LLI->Int->Out (Int×LLI×List Int×Unit)
  | 0,_,_=>.fail
  | n+1,lists,t=>match decide (t<lenI (List.getD sh.1 (0:Int).toNat ([]:List Int))) with
    | true=>match f84 (sh,(t,())) with
      | .ret r=>bif fits lists ([r.1]:List (List Int)) then P112 sh n (lists++([r.1]:List (List Int))) (IntKind.i64.wrap (t+(1:Int))) else .fail
      | _=>.fail
    | false=>bif mayMake (lenI (List.getD sh.1 (0:Int).toNat ([]:List Int))) then .ret (lenI (List.getD sh.1 (0:Int).toNat ([]:List Int)),lists,(zeros (.int .i64) (lenI (List.getD sh.1 (0:Int).toNat ([]:List Int))):List Int),()) else .fail
theorem l112_plain (N:Nat) (yv:Value) (sh:SHT) (z:Int×LLI×List Int×Unit):∀ (n:Nat) (lists:LLI) (t:Int),P112 sh n lists t = .ret z->L112s_0 N n yv sh lists t = .ret z:=by
  intro n
  induction n with
  | zero=>intro lists t h;cases h
  | succ n ih =>
    intro lists t h
    rw [L112s_0_succ]
    unfold P112 at h
    cases hd:decide (t<lenI (List.getD sh.1 (0:Int).toNat ([]:List Int))) with
    | true =>
      rw [hd] at h
      dsimp only at h ⊢
      cases hf:f84 (sh,(t,())) with
      | ret r =>
        rw [hf] at h
        dsimp only at h ⊢
        cases hr:fits lists ([r.1]:List (List Int)) with
        | true=>rw [hr] at h;exact ih _ _ h
        | false=>rw [hr] at h;cases h
      | pan p=>rw [hf] at h;cases h
      | fail=>rw [hf] at h;cases h
    | false =>
      rw [hd] at h
      dsimp only at h ⊢
      cases hm:mayMake (lenI (List.getD sh.1 (0:Int).toNat ([]:List Int))) with
      | false=>rw [hm] at h;cases h
      | true =>
        rw [hm] at h
        simp only [same_refl,Bool.and_self,cond_true] at h ⊢
        exact h
noncomputable def f56 (x:SHT×Bool×Unit):Out ((SHT×LLI×Unit×Unit×Unit)×Int×Unit) :=
  match x.2.1 with
  | false=>.fail
  | true=>bif inb (0:Int) x.1.1.length then
      match P56 x.1 fuel 0 with
      | .ret _=>match P112 x.1 fuel [] 0 with
        | .ret z=>match fromP z.2.1 x.1 fuel (IntKind.i64.wrap (z.1 - 1)) x.1.2.1 z.2.2.1 with
          | .ret r=>bif ((!z.2.2.1.isEmpty && r.1.all colOK) && (decide (r.1.length<999999999) && !r.1.isEmpty)) then .ret ((x.1,r.1,(),(),()),0,()) else .fail
          | _=>.fail
        | _=>.fail
      | _=>.fail
    else .fail
abbrev ARG56:Ty:=.prod SHTY (.prod .bool .unit)
abbrev RES56:Ty:=.prod BOOKT (.prod (.int .i64) .unit)
noncomputable def sp56:Spec:=⟨20,.call,ARG56,RES56,true,false,f56⟩
theorem row_rep {v:Value} {xs:List (List Int)} {M M':Mut} {w w':World} (h:RowAt v xs M w) (hs:Stable M w M' w') (hg:∀ g,ownB v=some g->w'.heap[g]? = w.heap[g]? /\ ∀ o,¬ M' g o):RepC M' w' (.list (.list (.int .i64))) [v] xs:=by
  obtain ⟨us,h1,h2,h3⟩:=h
  rcases h2.2 with ⟨rfl,h⟩|⟨g,cap,cur,rfl,_,e,hle,_,hsz,ht⟩
  . have:xs=[]:=List.eq_nil_of_length_eq_zero (by omega)
    subst this
    exact RepC.list_nil _
  . obtain ⟨k1,k2⟩:=hg g rfl
    have hle':(xs:List (List Int)).length<=cap:=h1 ▸ hle
    refine ⟨some ⟨g,0,none⟩,cap,by rw [h1];rfl,hle',fun i hi=>?_⟩
    have hi2:i<(xs:List (List Int)).length:=hi
    have hi':i<us.length:=by rw [h1];exact hi2
    refine ⟨g,0,[us[i]],rfl,rfl,fun j hj=>?_,?_⟩
    . have hj:j=0:=by simpa using hj
      subst hj
      refine ⟨?_,k2 _⟩
      show w'.cell? ⟨g,0+i * 1+0,none⟩=some us[i]
      rw [show 0+i * 1+0=i by omega,cell_of_row w' g i cur 22 (0,0) (k1.trans e)]
      have h4:(cur.toList.take (us.length * 1))[i]? = us[i]? := by rw [ht]
      rw [List.getElem?_take,if_pos (by omega),Array.getElem?_toList,List.getElem?_eq_getElem hi'] at h4
      exact h4
    . exact RepC.mono hs _ _ _ (h3 i us[i] _ (List.getElem?_eq_getElem hi') (List.getElem?_eq_getElem hi))
theorem bif_of {α:Type} {c:Bool} {x:Out α} {r:α} (h:(bif c then x else .fail) = .ret r):c=true/\x = .ret r:=by
  cases c with
  | true=>exact ⟨rfl,h⟩
  | false=>cases h
theorem f56_pan (x:SHT×Bool×Unit) (p:Value):f56 x ≠ .pan p:=by
  unfold f56
  intro hf
  split at hf
  . cases hf
  . cases h1:inb (0:Int) x.1.1.length with
    | false=>rw [h1] at hf;cases hf
    | true =>
      rw [h1] at hf
      simp only [cond_true] at hf
      repeat' split at hf
      all_goals first|cases hf|exact bif_pan p hf
theorem c56:Contract Try.prog sp56:=by
  refine contract_ret rfl f56_pan fun x M w vs r hf hI hvs hlt=>?_
  have hf:f56 x = .ret r:=hf
  obtain ⟨sh,b,u⟩:=x
  obtain ⟨v0,rest,hvl,hrep,v1,rest2,hvl2,hb,hrest⟩:=hvs
  have hrest:rest2=[]:=hrest
  subst hrest
  unfold f56 at hf
  dsimp only at hf
  cases b with
  | false=>cases hf
  | true =>
  have hv1:v1 = .bool true:=by
    obtain ⟨cs,rfl,e⟩:=hb
    have e:cs=[.bool true]:=e
    subst e
    rfl
  subst hv1
  obtain rfl:vs = #[v0,.bool true]:=by
    rw [<- Array.toArray_toList (xs:=vs),hvl,hvl2]
  obtain ⟨h0,hf⟩:=bif_of hf
  cases h1:P56 sh fuel 0 with
  | fail=>rw [h1] at hf;cases hf
  | pan p=>rw [h1] at hf;cases hf
  | ret z1 =>
  rw [h1] at hf
  dsimp only at hf
  cases h2:P112 sh fuel [] 0 with
  | fail=>rw [h2] at hf;cases hf
  | pan p=>rw [h2] at hf;cases hf
  | ret z =>
  obtain ⟨rr,lists,zs,_⟩:=z
  rw [h2] at hf
  dsimp only at hf
  cases h3:fromP lists sh fuel (IntKind.i64.wrap (rr - 1)) sh.2.1 zs with
  | fail=>rw [h3] at hf;cases hf
  | pan p=>rw [h3] at hf;cases hf
  | ret res =>
  rw [h3] at hf
  dsimp only at hf
  obtain ⟨h4,hf⟩:=bif_ret hf
  cases hf
  simp only [Bool.and_eq_true,Bool.not_eq_true',decide_eq_true_eq] at h4
  obtain ⟨⟨hz,hcol⟩,hlen,hne⟩:=h4
  have hz:zs≠[]:=fun e=>by rw [e] at hz;cases hz
  have hne:res.1≠[]:=fun e=>by rw [e] at hne;cases hne
  refine callsIn_wide.1 (callsIn_of_wp_marks (n:=0) Try.func20 some56 trivial ?_)
  show (bodyOf Try.f20).wpIn (fen none) 0 Try.prog _ { tmps := #[v0,.bool true]++Array.replicate (79 - 2) undef,defers:=[] } w
  refine front56 hrep hlt fun s0 a w1 hx0 hsh hc1=>?_
  refine mid56_wp (N:=fuel) (m:=fuel) (fun w' hw'=>Inv.below _ _ hI hw'.toBelow) (fun j v hj=>by cases hj) ?_ (fun yv=>?_) hz h3 hcol hlen hx0 hc1 fun s a2 w2 hc2 hs2 hxs=>?_
  . unfold S56;rw [h0];exact l56_plain _ _ _ _ _ h1
  . unfold S112;rw [h0];exact l112_plain _ _ _ _ _ _ _ h2
  refine end56_wp hc2 hs2 (by rw [hxs];exact hne) (by rw [hxs];exact hlen) fun a3 w3 hc3 hb4 t4 t5=>?_
  obtain ⟨hfr,Mc,hG⟩:=hc3
  have hIB:IB s Mc w3:=hG.1
  have hsh:s.sh=sh:=by
    obtain ⟨v,xs,rfl⟩:=sameB_iff.1 hs2
    exact hsh
  refine leave_marks (q:=fun D=>w.heap.size<=D) (by simp) (hG.2.1.defers.imp fun D hD=>hD) fun w4 hm=>?_
  have hcell:∀ (k:Nat) (ob:Obj),w3.heap[k]? = some ob->ob.isCells=true->w4.heap[k]? = some ob:=fun k ob e1 e2=>(hm.block k ⟨(Array.getElem?_eq_some_iff.1 e1).1,fun _ c e=>by rw [e1] at e;cases e;cases e2⟩).trans e1
  have hMc:∀ b o,M b o->Mc b o:=fun b o h=>hG.2.1.up b o h
  have hst:Stable Mc w3 M w4:=fun b o x e h=>by
    obtain ⟨ob,e1,e2⟩:=cells_of_cell e
    exact ⟨(World.cell?_of_block (a:=⟨b,o,none⟩) ((hcell b ob e1 e2).trans e1.symm)).trans e,fun h'=>h (hMc b o h')⟩
  refine ⟨_,results56 t4 (hcell _ _ hb4 rfl) t5,⟨_,rfl,⟨?_,?_⟩⟩⟩
  . have h5:=hfr.toBelow
    exact ⟨hm.os.trans h5.os,hm.tape.trans h5.tape,hm.output.trans h5.output,Nat.le_trans h5.size hm.size,fun k hk=>(hm.block k ⟨Nat.lt_of_lt_of_le hk h5.size,fun hq=>by have hq:w.heap.size<=k:=hq;omega⟩).trans (h5.block k hk)⟩
  . refine ⟨M,fun b o h=>h,fun b o h=>.inl h,?_,fun b h=>by cases h⟩
    have hrow:RepC M w4 (.list (.list (.int .i64))) [s.v] res.1:=by
      rw [<- hxs]
      refine row_rep hIB.row hst fun g hg=>?_
      obtain ⟨C,E,e⟩:=row_lt hIB.row hg
      refine ⟨(hcell _ _ e rfl).trans e.symm,fun o h=>?_⟩
      have h6:=(hG.2.2 g (.inr (.inr (.inr (.inr (.inr hg)))))).1
      exact h6 (hlt g o h)
    have hhd:RepC M w4 SHTY [s.c0,s.c1] sh:=by rw [<- hsh];exact RepC.mono hst _ _ _ hIB.hdr
    exact ⟨[_,_],rfl,_,_,rfl,⟨[s.c0,s.c1,s.v,.map (some s.m1),.map (some s.m2)],rfl,[s.c0,s.c1],_,rfl,hhd,[s.v],_,rfl,hrow,[.map (some s.m1)],_,rfl,⟨_,rfl,rfl,rfl⟩,[.map (some s.m2)],[],rfl,⟨_,rfl,rfl,rfl⟩,rfl⟩,_,_,rfl,⟨[.int .i64 0],rfl,rfl⟩,rfl⟩
end Go.V
namespace Go.V
open Go.Proofs
noncomputable def specs27:List Spec:=[sp57,sp56,sp58a]
def hints27:List (Nat×List Nat):=[]
noncomputable def F27 (N:Nat) (x:(((List (List Int))×((List Int)×Unit))×Unit)):Out ((List Int)×(Int×Unit)) :=
  match f57 (x.1,()) with
  | .ret r_1 =>
    match f56 (x.1,(r_1,())) with
    | .ret r_3 =>
      match (r_3.2.1 != (0:Int)) with
      | true =>
        .ret (([]:List Int),(r_3.2.1,()))
      | false =>
        match f58a (r_3.1.2.1,((Value.func (.func 23) #[] #[]),())) with
        | .ret r_5 =>
          .ret (r_5,((0:Int),()))
        | .pan p_6 =>
          .pan p_6
        | .fail=>.fail
    | .pan p_4 =>
      .pan p_4
    | .fail=>.fail
  | .pan p_2 =>
    .pan p_2
  | .fail=>.fail
theorem e27 (N:Nat) (x:(((List (List Int))×((List Int)×Unit))×Unit)):vfn Try.prog (phi specs27) hints27 N Try.f10 true false (.prod (.prod (.list (.list (.int .i64))) (.prod (.list (.int .i64)) .unit)) .unit) (.prod (.list (.int .i64)) (.prod (.int .i64) .unit)) x=F27 N x:=by
  kernel_rfl
noncomputable def f27 (x:(((List (List Int))×((List Int)×Unit))×Unit)):Out ((List Int)×(Int×Unit)):=F27 fuel x
noncomputable def sp27:Spec:=⟨10,.call,(.prod (.prod (.list (.list (.int .i64))) (.prod (.list (.int .i64)) .unit)) .unit),(.prod (.list (.int .i64)) (.prod (.int .i64) .unit)),true,false,f27⟩
theorem c27:Contract Try.prog sp27:=contract_at (l:=specs27) (arg:=(.prod (.prod (.list (.list (.int .i64))) (.prod (.list (.int .i64)) .unit)) .unit)) (res:=(.prod (.list (.int .i64)) (.prod (.int .i64) .unit))) (multi:=true) (own:=false) (F:=f27) mixed (all_cons c57 (all_cons c56 (all_cons c58a all_nil))) Try.func10 rfl hints27 fun x _=>⟨fuel,e27 fuel x⟩
end Go.V
