/- Part. -/
import Derived.Test.YtmkbnifehdhbbabGreatDoorCU
set_option linter.all false
noncomputable section
namespace Go.V
open Go.Proofs
open Go.RowKit (Below)
def Ue (H:Hole):Hole where
 σ:=Option H.σ
 hb s w b:=match s with|none=>False|some s=>H.hb s w b
 I s M w:=match s with|none=>True|some s=>H.I s M w
 keep s M w M' w' h1 h2 h3:=by
  cases s with
  | none=>trivial
  | some s=>exact H.keep s M w M' w' h1 h2 h3
 same s M w w' h1 h2 b h3:=by
  cases s with
  | none=>exact h3.elim
  | some s=>exact H.same s M w w' h1 h2 b h3
 lt s M w b h1 h2:=by
  cases s with
  | none=>exact h2.elim
  | some s=>exact H.lt s M w b h1 h2
 nd s M w b c h1 h2:=by
  cases s with
  | none=>exact h2.elim
  | some s=>exact H.nd s M w b c h1 h2
section
variable (P : Program) [Inv P] (H : Hole)
open Classical in
noncomputable def Gu (rs:List ResultVar) (multi own:Bool) (t:Ty) (R:H.σ->t.den->Prop):X->H.σ->St->Out Unit:=fun e s st=>match e with
 | .normal=>(match dH P rs multi own t st with | .ret r=>if R s r then .ret () else .fail|_=>.fail)
 | .ret=>(match dH P rs multi own t st with | .ret r=>if R s r then .ret () else .fail|_=>.fail)
 | _=>.fail
variable {P H} {Φ : Nat → List Spec}
theorem MW (hm:P.follows .mixedOrders=true) (hΦ:∀ g sp,sp∈Φ g->am P sp) {fnn:Nat} {fn:Func} {c:Code} (hfn:P.funcs[fnn]? = some fn) (hb:fn.body=some c) {T:List (List Nat×HdH H)} (hT:bG P H c T) {hints:List (Nat×List Nat)} {N:Nat}
 {arg res:Ty} {multi own:Bool} {s:H.σ} {x:arg.den} {R:H.σ->res.den->Prop} {M:ai} {w:World} {vs:Array Value} (hI:∀ w',Fr (fun k=>k<w.heap.size/\¬ H.hb s w k) w w'->Inv.I P w') (hs:H.I s M w) (hvs:bN M w arg vs.toList x) (hlt:∀ b o,M b o->b<w.heap.size) (hh:∀ b,H.hb s w b->∀ o,M b o)
 (h:ct P H Φ hints N (av fn) T (Gu P H fn.results.toList multi own res R) s (eM fn.ntmps arg x) = .ret ()) :
 Calls P fnn vs w fun e w'=>∃ v s' r,R s' r/\e = .returned v/\Fr (fun k=>k<w.heap.size/\¬ H.hb s w k) w w'/\(∀ b,H.hb s' w' b->H.hb s w b\/w.heap.size<=b) /\
  ∃ M',H.I s' M' w'/\(∀ b o,M b o->H.hb s w b\/M' b o)/\(∀ b o,M' b o->M b o\/(w.heap.size<=b/\b<w'.heap.size))/\(∀ b,H.hb s' w' b->∀ o,M' b o)/\aI M' w' [] ⟨#[],[]⟩ v (bP multi own res r):=by
 have hst:=u6 (n:=fn.ntmps) hvs hlt hs hh;unfold av at h;rw [hb] at h;refine callsIn_wide.1 (callsIn_of_wp_marks (n:=0) hfn hb trivial (Co hΦ hm hints N (by simp) (by simp) c T hT _ _ _ _ hI (fun j v hj=>by cases hj) _ _ ?_ s _ _ _ hst h));intro e s2 st a w' hc hk;have key:(match dH P fn.results.toList multi own res st with | .ret r=>(open Classical in if R s2 r then (Out.ret ():Out Unit) else .fail)|_=>.fail) = .ret ()->LeavesInM Fence.wide 0 P fn a.tmps (fun e w'=>∃ v s' r,R s' r/\e = .returned v/\Fr (fun k=>k<w.heap.size/\¬ H.hb s w k) w w'/\(∀ b,H.hb s' w' b->H.hb s w b\/w.heap.size<=b) /\
  ∃ M',H.I s' M' w'/\(∀ b o,M b o->H.hb s w b\/M' b o)/\(∀ b o,M' b o->M b o\/(w.heap.size<=b/\b<w'.heap.size))/\(∀ b,H.hb s' w' b->∀ o,M' b o)/\aI M' w' [] ⟨#[],[]⟩ v (bP multi own res r)) a.defers .returning w':=by
  intro hk;split at hk;rotate_left
  . cases hk
  rename_i r2 hv;split at hk;rotate_left
  . cases hk
  rename_i hR;obtain ⟨hfr,M',hG⟩:=hc;refine gR (M0:=jI (kF (H.hb s w) M w) (H.hb s2 w') M' w') (F:=fun b=>(b<w.heap.size/\¬ H.hb s w b)\/H.hb s2 w' b) (w0:=w') (st:=st) (by simp) (fun M2 w2 hg2 hf2=>?_) (fun D hD hF=>hF.elim hD.1 hD.2) a.defers M' w' hG.focus (Fr.refl _ _);obtain ⟨r',h1,v,h2,h3,h4⟩:=iS (fn:=fn) hg2 (by simp) hv;cases h1;have hG2:=hG.unfocus hf2 hg2;refine ⟨v,h2,v,s2,r2,hR,rfl,hfr.trans (jQ hf2),fun b hb=>?_,M2,hG2.1,fun b o hM=>?_,fun b o hM=>?_,fun b hb=>(hG2.2.2 b hb).2.1,h3⟩
  . rcases Nat.lt_or_ge b w.heap.size with h5|h5
    . by_cases h6:H.hb s w b
      . exact .inl h6
      . exact absurd ⟨h5,h6⟩ (hG2.2.2 b hb).1
    . exact .inr h5
  . by_cases h6:H.hb s w b
    . exact .inl h6
    . exact .inr (hG2.2.1.up b o ⟨hM,hlt b o hM,h6⟩)
  . rcases Nat.lt_or_ge b w.heap.size with h5|h5
    . by_cases h6:H.hb s w b
      . exact .inl (hh b h6 o)
      . exact .inl (hG2.2.1.down b o ⟨h5,h6⟩ hM).1
    . exact .inr ⟨h5,hG2.2.1.lt b o hM⟩
 cases e with
 | normal=>exact key hk
 | ret=>exact key hk
 | exit i=>cases hk
end
def qB (v:Value):Nat:=match v with | .map (some b)=>b|_=>0
abbrev dd:Hole:=Ue HM
def qE (nt p q d:Nat) (s:dd.σ) (st:St):Bool×Outs dd :=
 match get st p with
 | .d (.prod (.prod (.int .i64) (.prod (.list (.prod (.int .i64) (.prod (.list (.int .i64)) .unit))) .unit)) (.prod (.list (.list (.int .i64))) .unit)) tr=>(match get st q with
  | .d (.int .i64) place=>((st.length==nt && bL [d] st) && Option.isNone (show Option SM from s),.each fun v=>((some (qB v,(show TR from tr),(show Int from place)):Option SM),st.set d (.d .raw (.map (some (qB v))))))
  | _=>(false,.some []))
 | _=>(false,.some [])
theorem U1 (w:World):(Instr.makeMap 100 none).run Tryz.prog w = .ok (.map (some w.heap.size)) (w.alloc (.map #[] 0)):=by
 simp [Instr.makeMap]
theorem S_ {ops:Array Oper} {i p q d nt:Nat} (x0:(ops.toList.map a_)[i]? = some (some d,.makeMap 100 none,none)):dC Tryz.prog dd ops i (qE nt p q d):=by
 intro F M0 w0 n hI hpl Q K s st act w hc h1 hK;obtain ⟨o0,i0,d0,p0,q0⟩:=aB rfl x0;simp only at d0 p0 q0;unfold qE at h1;split at h1;rotate_left
 . cases h1
 rename_i tr ea;split at h1;rotate_left
 . cases h1
 rename_i place eb;simp only [Bool.and_eq_true,beq_iff_eq] at h1;obtain ⟨⟨hlen,hnb⟩,hs⟩:=h1;have hs:s=(none:Option SM):=Option.isNone_iff_eq_none.1 hs;subst hs;obtain ⟨hfr,M,hG⟩:=id hc;have hr:(execOp act.eval o0).run Tryz.prog w = .ok (.value (.map (some w.heap.size))) (w.alloc (.map #[] 0)):=by
  simp [execOp,p0,U1]
 refine aV i0 (aC q0) (fun c h=>by rw [p0] at h;cases h) hr ?_;rw [d0];have hBel:Below w.heap.size w (w.alloc (.map #[] 0)):=(Below.refl _ w).alloc (Nat.le_refl _) _;obtain ⟨M',hM'⟩:∃ M':ai,M'=fun b o=>M b o\/b=w.heap.size:=⟨_,rfl⟩
 have hI':dd.I (some (w.heap.size,(show TR from tr),(show Int from place)):Option SM) M' (w.alloc (.map #[] 0)):=⟨#[],0,heap_alloc_new w _,fun e he=>by simp at he⟩
 obtain ⟨f1,f2⟩:=hG.grow (s':=(some (w.heap.size,(show TR from tr),(show Int from place)):Option SM)) (M':=M') (w':=w.alloc (.map #[] 0)) ⟨rfl,rfl,rfl,by simp,fun k hk=>heap_alloc_old w _ hk.1⟩ hI' (fun b o h=>by rw [hM'];exact .inr (.inl h)) (fun b o h=>by
  rw [hM'] at h;rcases h with h|h
  . exact .inl h
  . subst h;exact .inr ⟨Nat.le_refl _,by simp⟩) (fun b hb=>by
  have hb:b=w.heap.size:=hb;exact .inr (Nat.le_of_eq hb.symm)) fun b hb o=>by
  have hb:b=w.heap.size:=hb;rw [hM'];exact .inr hb
 have hnb':au (get st d)=false:=by
  have:=List.all_eq_true.1 hnb d (by simp)
  simpa using this
 have hf:=f2.focus.fin (dst:=some d) (s:=.d .raw (.map (some w.heap.size))) (v:=.map (some w.heap.size)) (fun d' hd=>by cases hd;exact hnb') rfl ⟨[.map (some w.heap.size)],rfl,rfl,rfl,rfl⟩;have hmem:(qE nt p q d (none:Option SM) st).2.mem ((some (w.heap.size,(show TR from tr),(show Int from place)):Option SM),st.set d (.d .raw (.map (some w.heap.size)))):=by
  unfold qE;rw [ea];dsimp only;rw [eb];exact ⟨.map (some w.heap.size),rfl⟩
 exact hK _ hmem _ _ ⟨hfr.trans f1,M',f2.unfocus (Fr.refl _ _) hf⟩
theorem JG {M:ai} {w:World} {v:Value} {r:TR} (h:aw M w df v r):∃ x0 x1 x2:Value,v = .agg #[x0,x1,x2]/\(x0.cells = #[x0]/\x0.oneCell'=true)/\(x1.cells = #[x1]/\x1.oneCell'=true)/\(x2.cells = #[x2]/\x2.oneCell'=true)/\af M w df [x0,x1,x2] r:=by
 obtain ⟨cs,rfl,hc⟩:=h;have hl:=af.length _ _ _ hc;have h1:=af.one _ _ _ hc
 match cs,hl,hc,h1 with
 | [x0,x1,x2],_,hc,h1 =>
  exact ⟨x0,x1,x2,rfl,(h1 x0 (by simp)).symm,(h1 x1 (by simp)).symm,(h1 x2 (by simp)).symm,hc⟩
def xF (nt d:Nat) (s:dd.σ) (st:St):Bool×Outs dd :=
 (st.length==nt && bL [d] st,.some [(s,st.set d (.box [.d (.int .i64) (0:Int),.d ba ([]:List gg),.d be ([]:List (List Int)),.d (.int .i64) (0:Int),.d .raw (.map none)]))])
theorem P0 {a:Act} {w:World} {o:Oper} (ho:o.op = .alloc 102):(execOp a.eval o).run Tryz.prog w = .ok (.value (.pointer (some ⟨w.heap.size,0,none⟩))) (w.alloc (.cells #[.int .i64 0,.slice none 0 0,.slice none 0 0,.int .i64 0,.map none] 102)):=by
 simp only [execOp,ho];simp [go_sem]
theorem K7 {ops:Array Oper} {i d nt:Nat} (x0:(ops.toList.map a_)[i]? = some (some d,.alloc 102,none)):dC Tryz.prog dd ops i (xF nt d):=by
 intro F M0 w0 n hI hpl Q K s st act w hc h1 hK;obtain ⟨o0,i0,d0,p0,q0⟩:=aB rfl x0;simp only at d0 p0 q0;unfold xF at h1 hK;simp only [Bool.and_eq_true,beq_iff_eq] at h1;obtain ⟨hlen,hnb⟩:=h1;have hnb:au (get st d)=false:=by
  have:=List.all_eq_true.1 hnb d (by simp)
  simpa using this
 obtain ⟨N0,hpn,⟨hb,M,hg⟩,hback⟩:=hc.lift;have hnil:∀ (e:Ty) (M:ai) (w:World),af M w (.list e) [.slice none 0 0] ([]:List e.den):=fun e M w=>af.list_nil _
 obtain ⟨M2,hgb⟩:=hg.put_box (o:=o0) (E:=102) (fun d' hd=>by rw [d0] at hd;cases hd;exact hnb) (cs:=[.d (.int .i64) (0:Int),.d (.list (.prod (.int .i64) (.prod (.list (.int .i64)) .unit))) ([]:List gg),.d (.list (.list (.int .i64))) ([]:List (List Int)),.d (.int .i64) (0:Int),.d .raw (.map none)]) (cells := #[.int .i64 0,.slice none 0 0,.slice none 0 0,.int .i64 0,.map none])
  (fun k t xs hh h=>by match k,h with|0,h=>cases h|1,h=>cases h|2,h=>cases h|3,h=>cases h|4,h=>cases h|_+5,h=>cases h)
  (fun k t xs h=>by match k,h with|0,h=>cases h|1,h=>cases h|2,h=>cases h|3,h=>cases h|4,h=>cases h|_+5,h=>cases h)
  (fun k t xs hh v h1 h2=>by match k,h1,h2 with|0,h1,_=>cases h1|1,h1,_=>cases h1|2,h1,_=>cases h1|3,h1,_=>cases h1|4,h1,_=>cases h1|_+5,h1,_=>cases h1) rfl
  (fun k c u h1 h2=>by
   match k,h1,h2 with
   | 0,h1,h2=>cases h1;cases h2;exact rfl
   | 1,h1,h2=>cases h1;cases h2;exact hnil _ _ _
   | 2,h1,h2=>cases h1;cases h2;exact hnil _ _ _
   | 3,h1,h2=>cases h1;cases h2;exact rfl
   | 4,h1,h2=>cases h1;cases h2;exact ⟨rfl,rfl,rfl⟩
   | _+5,h1,_=>cases h1)
 refine aV i0 (aC q0) (fun c h=>by rw [p0] at h;cases h) (P0 p0) ?_;rw [d0] at hgb ⊢;exact hK _ (.head _) _ _ (hback _ _ _ ⟨hb.alloc hg.room _,M2,hgb⟩)
def zA (v:Value):Bool:=match v with | .map _=>true|_=>false
theorem RH {v:Value} (h:zA v=true):∃ mo,v = .map mo:=by
 unfold zA at h;split at h
 . exact ⟨_,rfl⟩
 . cases h
def oT (nt a b c d:Nat) (s:dd.σ) (st:St):Bool×Outs dd :=
 match get st a with
 | .d (.prod (.prod (.int .i64) (.prod (.list (.prod (.int .i64) (.prod (.list (.int .i64)) .unit))) .unit)) (.prod (.list (.list (.int .i64))) .unit)) tr=>(match get st b with
  | .d (.int .i64) place=>(match get st c with
   | .d .raw v=>((st.length==nt && bL [d] st) && zA v,.some [(s,st.set d (.d eN ((show TR from tr),((show Int from place),((show Value from v),())))))])
   | _=>(false,.some []))
  | _=>(false,.some []))
 | _=>(false,.some [])
theorem Pg {act:Act} {w:World} {o:Oper} {a b c:Nat} (ho:o.op = .build 102 #[(0,.tmp a),(1,.tmp b),(2,.tmp c)]) {x0 x1 x2 v:Value} {place:Int} (ha:tm act a = .agg #[x0,x1,x2]) (hb:tm act b = .int .i64 place) (hc:tm act c=v)
 (c0:x0.cells = #[x0]) (c1:x1.cells = #[x1]) (c2:x2.cells = #[x2]) (c3:∃ mo,v = .map mo):(execOp act.eval o).run Tryz.prog w = .ok (.value (.agg #[x0,x1,x2,.int .i64 place,v])) w:=by
 have e0:act.eval (.tmp a) = .agg #[x0,x1,x2]:=ha;have e1:act.eval (.tmp b) = .int .i64 place:=hb;have e2:act.eval (.tmp c)=v:=hc;simp only [execOp,ho,List.map_toArray,List.map_cons,List.map_nil,e0,e1,e2];obtain ⟨mo,rfl⟩:=c3;simp [go_sem]
theorem LM {ops:Array Oper} {i a b c d nt:Nat} (x0:(ops.toList.map a_)[i]? = some (some d,.build 102 #[(0,.tmp a),(1,.tmp b),(2,.tmp c)],none)):dC Tryz.prog dd ops i (oT nt a b c d):=by
 intro F M0 w0 n hI hpl Q K s st act w hc h1 hK;obtain ⟨o0,i0,d0,p0,q0⟩:=aB rfl x0;simp only at d0 p0 q0;unfold oT at h1;split at h1;rotate_left
 . cases h1
 rename_i tr ea;split at h1;rotate_left
 . cases h1
 rename_i placeD eb;obtain ⟨place,hpl'⟩:∃ p:Int,p=placeD:=⟨_,rfl⟩
 subst hpl';split at h1;rotate_left
 . cases h1
 rename_i v ec;simp only [Bool.and_eq_true,beq_iff_eq] at h1;obtain ⟨⟨hlen,hnb⟩,hmp⟩:=h1;have hnb:au (get st d)=false:=by
  have:=List.all_eq_true.1 hnb d (by simp)
  simpa using this
 obtain ⟨N0,hpn,⟨hb,M,hg⟩,hback⟩:=hc.lift;have sa:=hg.slot a;rw [ea] at sa;have sb:=hg.slot b;rw [eb] at sb;have sc:=hg.slot c;rw [ec] at sc;obtain ⟨y0,y1,y2,ta,c0,c1,c2,hrc⟩:=JG (show aw M w df (tm act a) tr from sa);have tb:tm act b = .int .i64 place:=fL sb;have tc:tm act c=v:=fp (show aw M w .raw (tm act c) v from sc);have hcv:v.cells = #[v]/\v.oneCell'=true:=by
  obtain ⟨cs,_,h2,h3,h4⟩:=(show aw M w .raw (tm act c) v from sc)
  exact ⟨h3,h4⟩
 refine aV i0 (aC q0) (fun c h=>by rw [p0] at h;cases h) (Pg p0 ta tb tc c0.1 c1.1 c2.1 (RH hmp)) ?_;rw [d0];have hmem:(oT nt a b c d s st).2.mem (s,st.set d (.d eN ((show TR from tr),(place,((show Value from v),()))))):=by
  unfold oT;rw [ea];dsimp only;rw [eb];dsimp only;rw [ec];exact .head _
 have hrepT:aw M w eN (.agg #[y0,y1,y2,.int .i64 place,v]) ((show TR from tr),(place,((show Value from v),()))) :=
  ⟨[y0,y1,y2,.int .i64 place,v],rfl,[y0,y1,y2],[.int .i64 place,v],rfl,hrc,[.int .i64 place],[v],rfl,rfl,[v],[],rfl,⟨rfl,hcv.1,hcv.2⟩,rfl⟩
 exact hK _ hmem _ _ (hback _ _ _ ⟨hb,M,hg.fin (dst:=some d) (fun d' hd=>by cases hd;exact hnb) rfl hrepT⟩)
def Aw:Array Oper:=bp 1 (av Tryz.f71)
def vR:Nat->Option (Nat×(dd.σ->St->Bool×Outs dd)):=fun i=>match i with|3=>some (0,qE 10 6 7 8)|4=>some (0,oT 10 6 7 8 9)|_=>none
theorem Ks:∀ i y,vR i=some y->bw Tryz.prog dd Aw i y.1 y.2:=by
 intro i y h;unfold vR at h;split at h
 . cases h;exact (S_ (i:=3) (by kernel_rfl)).one
 . cases h;exact (LM (i:=4) (by kernel_rfl)).one
 . cases h
def Av:Array Oper:=bp 0 (av Tryz.f71)
def vQ:Nat->Option (Nat×(dd.σ->St->Bool×Outs dd)):=fun i=>match i with|1=>some (0,xF 10 4)|_=>none
theorem Kr:∀ i y,vQ i=some y->bw Tryz.prog dd Av i y.1 y.2:=by
 intro i y h;unfold vQ at h;split at h
 . cases h;exact (K7 (i:=1) (by kernel_rfl)).one
 . cases h
def Du:List (List Nat×HdH dd):=[([0],⟨fun {ρ} k s st=>cf Tryz.prog dd (fun _=>ah [fw]) [] vQ 0 Av k s st⟩),([1,0],⟨fun {ρ} k s st=>cf Tryz.prog dd (fun _=>ah [fw]) [] vR 1 Aw k s st⟩)]
theorem Ll:bG Tryz.prog dd (av Tryz.f71) Du:=bJ (c' := .region 0 Av false) (by kernel_rfl) (cr (fun s g sp hs=>.inl (eK (l:=[fw]) (fun sp h=>by rw [List.mem_singleton] at h;subst h;exact fO) g sp hs)) [] Kr) (bJ (c' := .region 1 Aw false) (by kernel_rfl) (cr (fun s g sp hs=>.inl (eK (l:=[fw]) (fun sp h=>by rw [List.mem_singleton] at h;subst h;exact fO) g sp hs)) [] Ks) dU)
abbrev oI:Ty:=.prod gI (.prod (.int .i64) .unit)
open Classical in
theorem Om (N:Nat) (x:ac×Int×Unit) (R:Option SM->RD->Prop):ct Tryz.prog dd (ah []) [] N (av Tryz.f71) Du (Gu Tryz.prog dd Tryz.f71.results.toList false false eN R) (none:Option SM) (eM Tryz.f71.ntmps oI x) =
 (match f58 (x.1,()) with
 | .ret r=>eD fun v=>(if R (some (qB v,r,x.2.1)) (r,(x.2.1,(.map (some (qB v)),()))) then .ret () else .fail)
 | .pan _=>.fail
 | .fail=>.fail):=by
 kernel_rfl
theorem MU {x:ac×Int×Unit} {made:TR} (hf:f58 (x.1,()) = .ret made) {M:ai} {w:World} {vs:Array Value} (hI:Inv.I Tryz.prog w) (hvs:bN M w oI vs.toList x) (hlt:∀ b o,M b o->b<w.heap.size) :
 Calls Tryz.prog 71 vs w fun e w'=>∃ v s,s.2=(made,x.2.1)/\e = .returned v/\Below w.heap.size w w'/\w.heap.size<=s.1 /\
  ∃ M',HM.I s M' w'/\(∀ b o,M b o->M' b o)/\(∀ b o,M' b o->M b o\/(w.heap.size<=b/\b<w'.heap.size))/\(∀ b,HM.hb s w' b->∀ o,M' b o)/\aw M' w' eN v (bR s):=by
 have h:=Om fuel x (fun s' r=>∃ b,s'=some (b,made,x.2.1)/\r=bR (b,made,x.2.1));rw [hf] at h;dsimp only at h;rw [iZ (r:=.ret ()) fun v=>if_pos ⟨qB v,rfl,rfl⟩] at h;refine (MW mixed (eK aO) Tryz.func71 rfl Ll (s:=(none:Option SM)) (fun w' hw'=>Inv.below _ _ hI (Fr.toBelow ⟨hw'.os,hw'.tape,hw'.output,hw'.size,fun k hk=>hw'.block k ⟨hk,id⟩⟩)) trivial hvs hlt (fun b hB=>hB.elim) h).mono ?_;rintro e w' ⟨v,s',r,⟨b,rfl,rfl⟩,rfl,h1,h2,M',h3,h4,h5,h6,h7⟩;exact ⟨v,(b,made,x.2.1),rfl,rfl,Fr.toBelow ⟨h1.os,h1.tape,h1.output,h1.size,fun k hk=>h1.block k ⟨hk,id⟩⟩,(h2 b rfl).resolve_left id,M',h3,fun b o hM=>(h4 b o hM).resolve_left id,h5,h6,h7⟩
theorem Hi {g:Nat} {res:Ty} {fg:SM->RD×Unit->Out res.den} (hg:∀ s,fe Tryz.prog HM s ⟨g,.call,.prod eN .unit,res,false,false,fg s⟩) {x:ac×Int×Unit} {made:TR} (hf:f58 (x.1,()) = .ret made) {r:res.den} (hr:∀ b,fg (b,made,x.2.1) (bR (b,made,x.2.1),()) = .ret r)
 {M:ai} {w:World} {vs:Array Value} (hI:Inv.I Tryz.prog w) (hvs:bN M w oI vs.toList x) (hlt:∀ b o,M b o->b<w.heap.size) :
 Calls Tryz.prog 71 vs w fun e w1=>∃ v1,e = .returned v1/\Below w.heap.size w w1/\Calls Tryz.prog g #[v1] w1 fun e w2=>∃ v2,e = .returned v2/\Below w.heap.size w w2/\eA M w w2 false false res v2 r:=by
 refine (MU hf hI hvs hlt).mono ?_;rintro e w1 ⟨v1,s,hs,rfl,hb,hm,M1,h1,h2,h3,h4,h5⟩;refine ⟨v1,rfl,hb,?_⟩;obtain ⟨b,y⟩:=s;have hs:y=(made,x.2.1):=hs;subst hs;refine (hg _ (bR (b,made,x.2.1),()) M1 w1 #[v1] r (Inv.below _ _ hI hb) h1 ⟨v1,[],rfl,h5,rfl⟩ (fun b o hM=>(h3 b o hM).elim (fun h=>Nat.lt_of_lt_of_le (hlt b o h) hb.size) (·.2)) h4 (hr b)).mono ?_;rintro e w2 ⟨v2,rfl,hfr,_,M2,g1,g2,g3,g4⟩;refine ⟨v2,rfl,Fr.toBelow ⟨hfr.os.trans hb.os,hfr.tape.trans hb.tape,hfr.output.trans hb.output,Nat.le_trans hb.size hfr.size,fun k hk=>(hfr.block k ⟨Nat.lt_of_lt_of_le hk hb.size,fun hB=>?_⟩).trans (hb.block k hk)⟩,M2,fun b o hM=>g1 b o (h2 b o hM),fun b o hM=>?_,g3,fun b h5 h6=>Nat.le_trans hb.size (g4 b h5 h6)⟩
 . have hB:k=b:=hB;have hm:w.heap.size<=b:=hm;omega
 . rcases g2 b o hM with h|h
   . rcases h3 b o h with h|h
     . exact .inl h
     . exact .inr ⟨h.1,Nat.lt_of_lt_of_le h.2 hfr.size⟩
   . exact .inr ⟨Nat.le_trans hb.size h.1,h.2⟩
open Go.RowKit (Below)
def aJ (t:ac):TR:=(t,(jq t.2.1,()))
def nY (t:ac) (place:Int):SM:=(0,aJ t,place)
def gN (t:ac) (place:Int):Int:=eS (nY t place)
def aq (t:ac) (place:Int):List (List Int):=cI (nY t place) []
structure PreT (t:ac):Prop where
 few:t.2.1.length<1000000
 par:sf t.2.1
structure PreE (t:ac) (place:Int):Prop where
 tree:PreT t
 rd:RdOK (aJ t) place
 pos:0<t.2.1.length
structure PreS (t:ac) (place:Int):Prop where
 tree:PreT t
 st:Pre64 (nY t place)
def preE (t:ac) (place:Int):Bool := @decide (PreE t place) (Classical.propDecidable _)
def preS (t:ac) (place:Int):Bool := @decide (PreS t place) (Classical.propDecidable _)
theorem Hu {t:ac} {place:Int}:preE t place=true<->PreE t place:=by unfold preE;exact @decide_eq_true_iff _ (Classical.propDecidable _)
theorem nH {t:ac} {place:Int}:preS t place=true<->PreS t place:=by unfold preS;exact @decide_eq_true_iff _ (Classical.propDecidable _)
theorem zY (b:Nat) (y:TR×Int):∀ (k:Nat) (now:List Int),dP (b,y) k now=dP (0,y) k now
 | 0,now=>by unfold dP;rfl
 | k+1,now=>by
  unfold dP;simp only [zY b y k];rfl
theorem yz {t:ac} (h:PreT t):f58 (t,()) = .ret (aJ t):=by
 unfold f58;rw [if_pos ⟨h.few,h.par⟩];rfl
def H0:Hole where
 σ:=Unit
 hb _ _ _:=False
 I _ _ _:=True
 keep _ _ _ _ _ _ _ _:=trivial
 same _ _ _ _ _ _ _ h:=h
 lt _ _ _ _ _ h:=h.elim
 nd _ _ _ _ _ _ h:=h.elim
def iH (H:Hole) (res:Ty) (pre:ac->Int->Bool) (val:ac->Int->res.den) (nt p q d1 d2:Nat) (s:H.σ) (st:St):Bool×Outs H :=
 match (get st p).as gI with
 | some t=>(match (get st q).as (.int .i64) with
  | some place=>((st.length==nt && bL [d1,d2] st) && pre (show ac from t) (show Int from place),.some [(s,(bE [d1] st).set d2 (.d res (val (show ac from t) (show Int from place))))])
  | none=>(false,.some []))
 | none=>(false,.some [])
theorem Hj {H:Hole} {res:Ty} {pre:ac->Int->Bool} {val:ac->Int->res.den} {g:Nat} {fg:SM->RD×Unit->Out res.den} (hg:∀ s,fe Tryz.prog HM s ⟨g,.call,.prod eN .unit,res,false,false,fg s⟩)
 (hpre:∀ t place,pre t place=true->PreT t/\∀ b,fg (b,aJ t,place) (bR (b,aJ t,place),()) = .ret (val t place)) (hent:fG Tryz.prog g=true)
 {ops:Array Oper} {i p q d1 d2 nt:Nat} (hd1:d1<nt) (hd2:d2<nt) (hdd:d1≠d2) (x0:(ops.toList.map a_)[i]? = some (some d1,.call { callee:=.value (.func 71),args := #[.tmp p,.tmp q],argTypes := #[24,3] },none))
 (x1:(ops.toList.map a_)[i+1]? = some (some d2,.call { callee:=.value (.func g),args := #[.tmp d1],argTypes := #[102] },none)):bw Tryz.prog H ops i 1 (iH H res pre val nt p q d1 d2):=by
 intro F M0 w0 n hI hpl Q rest s st act w hc h1 hK;obtain ⟨o0,i0,e0,p0,q0⟩:=aB rfl x0;obtain ⟨o1,i1,e1,p1,q1⟩:=aB rfl x1;simp only at e0 p0 q0 e1 p1 q1;unfold iH at h1;split at h1;rotate_left
 . cases h1
 rename_i t ea;split at h1;rotate_left
 . cases h1
 rename_i placeD eb;obtain ⟨place,hpl'⟩:∃ z:Int,z=placeD:=⟨_,rfl⟩
 subst hpl';simp only [Bool.and_eq_true,beq_iff_eq] at h1;obtain ⟨⟨hlen,hnb⟩,hpr⟩:=h1;obtain ⟨hT,hval⟩:=hpre t place hpr;show wpOpsIn (aA none) n Tryz.prog ops Q (i :: (i+1) :: rest) act w;rw [wpOpsIn_cons];obtain ⟨N0,hpn,hcl,hback⟩:=hc.lift;obtain ⟨hb,M,hg'⟩:=id hcl;have hsz:act.tmps.size=nt:=hg'.size.trans hlen;have hIw:Inv.I Tryz.prog w:=hI w hc.1;have hra:aw M w gI (tm act p) t:=cO (hg'.slot p) ea;have hrb:aw M w (.int .i64) (tm act q) place:=cO (hg'.slot q) eb;have hr0:(execOp act.eval o0).run Tryz.prog w = .ok (.enter 71 #[tm act p,tm act q]) w:=by
  have e0:act.eval (.tmp p)=tm act p:=rfl;have e1:act.eval (.tmp q)=tm act q:=rfl;have e3:=fun args=>dK (P:=Tryz.prog) (g:=71) (by kernel_rfl) args w
  have e4:act.eval (.func 71) = .func (.func 71) #[] #[]:=rfl;simp [execOp,p0,resolve,e0,e1,e4,Deferred.ofValue,invoke,e3]
 refine gz i0 (aC q0) (fun c h=>by rw [p0] at h;cases h) hr0 ?_;have hvs:bN M w oI #[tm act p,tm act q].toList (t,(place,())):=⟨_,_,rfl,hra,_,_,rfl,hrb,rfl⟩
 refine (Hi hg (x:=(t,place,())) (yz hT) (r:=val t place) (fun b=>hval b) hIw hvs hg'.lt).mono ?_;rintro e w1 ⟨v1,rfl,_,hc2⟩;refine ⟨v1,rfl,?_⟩;rw [e0,wpOpsIn_cons];have hr1:(execOp (act.put (some d1) v1).eval o1).run Tryz.prog w1 = .ok (.enter g #[v1]) w1:=by
  have e0:(act.put (some d1) v1).eval (.tmp d1)=v1:=ay (by omega);have e3:=fun args=>dK (P:=Tryz.prog) (g:=g) hent args w1
  have e4:(act.put (some d1) v1).eval (.func g) = .func (.func g) #[] #[]:=rfl;simp [execOp,p1,resolve,e0,e4,Deferred.ofValue,invoke,e3]
 refine gz i1 (aC q1) (fun c h=>by rw [p1] at h;cases h) hr1 ?_;refine hc2.mono ?_;rintro e w2 ⟨v2,rfl,hbel,hres⟩;refine ⟨v2,rfl,?_⟩;have nb:∀ d∈[d1,d2],au (get st d)=false:=fun d hd=>by
  have:=List.all_eq_true.1 hnb d hd
  simpa using this
 have g1:=hg'.fin (dst:=some d1) (s:=.und) (v:=v1) (fun d' hd=>by cases hd;exact nb d1 (by simp)) rfl trivial;have hnb2:dj o1 (st.set d1 .und)=false:=by
  unfold dj;rw [e1];show au (get (st.set d1 .und) d2)=false;rw [bu st _ _ _ (by omega),if_neg (by omega)];exact nb d2 (by simp)
 obtain ⟨M',g2⟩:=Good.res (o:=o1) g1 hnb2 hbel hres;rw [e1] at g2 ⊢;have hmem:(iH H res pre val nt p q d1 d2 s st).2.mem (s,(bE [d1] st).set d2 (.d res (val t place))):=by
  unfold iH;rw [ea];dsimp only;rw [eb];exact .head _
 exact hK _ hmem _ _ (hback _ _ _ ⟨Fr.below hbel hg'.room,M',g2⟩)
theorem O5 {H:Hole} {ops:Array Oper} {i p q d1 d2 nt:Nat} (hd1:d1<nt) (hd2:d2<nt) (hdd:d1≠d2) (x0:(ops.toList.map a_)[i]? = some (some d1,.call { callee:=.value (.func 71),args := #[.tmp p,.tmp q],argTypes := #[24,3] },none))
 (x1:(ops.toList.map a_)[i+1]? = some (some d2,.call { callee:=.value (.func 72),args := #[.tmp d1],argTypes := #[102] },none)):bw Tryz.prog H ops i 1 (iH H (.int .i64) preE gN nt p q d1 d2):=by
 refine Hj D_ (fun t place h=>?_) (by kernel_rfl) hd1 hd2 hdd x0 x1;have h:=Hu.1 h;refine ⟨h.tree,fun b=>?_⟩;unfold jP;rw [if_pos ⟨rfl,h.rd,h.pos⟩];rfl
theorem B3 {H:Hole} {ops:Array Oper} {i p q d1 d2 nt:Nat} (hd1:d1<nt) (hd2:d2<nt) (hdd:d1≠d2) (x0:(ops.toList.map a_)[i]? = some (some d1,.call { callee:=.value (.func 71),args := #[.tmp p,.tmp q],argTypes := #[24,3] },none))
 (x1:(ops.toList.map a_)[i+1]? = some (some d2,.call { callee:=.value (.func 83),args := #[.tmp d1],argTypes := #[102] },none)):bw Tryz.prog H ops i 1 (iH H be preS aq nt p q d1 d2):=by
 refine Hj Ea (fun t place h=>?_) (by kernel_rfl) hd1 hd2 hdd x0 x1;have h:=nH.1 h;refine ⟨h.tree,fun b=>?_⟩;unfold f64;rw [if_pos ⟨rfl,⟨h.st.rd,h.st.par,h.st.pos,h.st.few⟩⟩];show Out.ret (cI (b,aJ t,place) []) = .ret (aq t place);unfold aq cI nY;rw [zY]
def dY {σ α:Type}:Out (σ×α)->Out α
 | .ret (_,r)=>.ret r
 | _=>.fail
theorem EA {σ α:Type} {o:Out (σ×α)} {r:α} (h:dY o = .ret r):∃ s,o = .ret (s,r):=by
 unfold dY at h;split at h
 . cases h;exact ⟨_,rfl⟩
 . cases h
theorem Ez {σ α:Type} {o:Out (σ×α)} {p:Value} (h:dY o = .pan p):False:=by
 unfold dY at h;split at h<;>cases h
theorem jM {H:Hole} (s0:H.σ) (h0:∀ w b,¬ H.hb s0 w b) (hI0:∀ M w,H.I s0 M w) {l:List Spec} (hl:∀ sp∈l,am Tryz.prog sp) {fnn:Nat} {arg res:Ty} {multi own:Bool} {F:arg.den->Out (H.σ×res.den)} {fn:Func} {c:Code}
 (hfn:Tryz.prog.funcs[fnn]? = some fn) (hb:fn.body=some c) {T:List (List Nat×HdH H)} (hT:bG Tryz.prog H c T) (hints:List (Nat×List Nat)) (n:Nat)
 (h:∀ x,cD Tryz.prog H (ah l) hints n T fn multi own arg res s0 x=F x):am Tryz.prog ⟨fnn,.call,arg,res,multi,own,fun x=>dY (F x)⟩:=by
 refine Et (s:=s0) mixed hl hfn hb hT hints h0 hI0 (fun x p hp=>Ez hp) fun x r hr=>?_
 obtain ⟨s',hs⟩:=EA hr;exact ⟨n,s',(h x).trans hs⟩
theorem Er {l:List Spec} (hl:∀ sp∈l,am Tryz.prog sp) {fnn:Nat} {arg res:Ty} {multi own:Bool} {F:arg.den->Out (Unit×res.den)} {fn:Func} {c:Code}
 (hfn:Tryz.prog.funcs[fnn]? = some fn) (hb:fn.body=some c) {T:List (List Nat×HdH H0)} (hT:bG Tryz.prog H0 c T) (hints:List (Nat×List Nat)) (n:Nat)
 (h:∀ x,cD Tryz.prog H0 (ah l) hints n T fn multi own arg res () x=F x):am Tryz.prog ⟨fnn,.call,arg,res,multi,own,fun x=>dY (F x)⟩ :=
 jM (H:=H0) () (fun w b h=>h) (fun M w=>trivial) hl hfn hb hT hints n h
end Go.V
end
