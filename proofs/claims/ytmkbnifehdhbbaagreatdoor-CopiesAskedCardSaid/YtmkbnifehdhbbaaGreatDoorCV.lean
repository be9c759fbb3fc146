/- Part. -/
import Derived.Test.YtmkbnifehdhbbaaGreatDoorCU
set_option linter.all false
noncomputable section
namespace Go.V
open Go.Proofs
open Go.RowKit (Below)
def TO (H:Hole):Hole where
 σ:=Option H.σ
 hb s w b:=match s with|none=>False|some s=>H.hb s w b
 I s M w:=match s with|none=>True|some s=>H.I s M w
 keep s M w M' w' h1 h2 h3:=by
  cases s with
  | none=>trivial
  | some s=>exact H.keep s M w M' w' h1 h2 h3
 same s M w w' h1 h2 b h3:=by
  cases s with
  | none=>exact h3.elim
  | some s=>exact H.same s M w w' h1 h2 b h3
 lt s M w b h1 h2:=by
  cases s with
  | none=>exact h2.elim
  | some s=>exact H.lt s M w b h1 h2
 nd s M w b c h1 h2:=by
  cases s with
  | none=>exact h2.elim
  | some s=>exact H.nd s M w b c h1 h2
section
variable (P : Program) [Inv P] (H : Hole)
open Classical in
noncomputable def Gc (rs:List ResultVar) (multi own:Bool) (t:Ty) (R:H.σ->t.den->Prop):X->H.σ->St->Out Unit:=fun e s st=>match e with
 | .normal=>(match dH P rs multi own t st with | .ret r=>if R s r then .ret () else .fail|_=>.fail)
 | .ret=>(match dH P rs multi own t st with | .ret r=>if R s r then .ret () else .fail|_=>.fail)
 | _=>.fail
variable {P H} {Φ : Nat → List Spec}
theorem MG (hm:P.follows .mixedOrders=true) (hΦ:∀ g sp,sp∈Φ g->am P sp) {fnn:Nat} {fn:Func} {c:Code} (hfn:P.funcs[fnn]? = some fn) (hb:fn.body=some c) {T:List (List Nat×HdH H)} (hT:bG P H c T) {hints:List (Nat×List Nat)} {N:Nat}
 {arg res:Ty} {multi own:Bool} {s:H.σ} {x:arg.den} {R:H.σ->res.den->Prop} {M:ai} {w:World} {vs:Array Value} (hI:∀ w',Fr (fun k=>k<w.heap.size/\¬ H.hb s w k) w w'->Inv.I P w') (hs:H.I s M w) (hvs:bN M w arg vs.toList x) (hlt:∀ b o,M b o->b<w.heap.size) (hh:∀ b,H.hb s w b->∀ o,M b o)
 (h:ct P H Φ hints N (av fn) T (Gc P H fn.results.toList multi own res R) s (eM fn.ntmps arg x) = .ret ()) :
 Calls P fnn vs w fun e w'=>∃ v s' r,R s' r/\e = .returned v/\Fr (fun k=>k<w.heap.size/\¬ H.hb s w k) w w'/\(∀ b,H.hb s' w' b->H.hb s w b\/w.heap.size<=b) /\
  ∃ M',H.I s' M' w'/\(∀ b o,M b o->H.hb s w b\/M' b o)/\(∀ b o,M' b o->M b o\/(w.heap.size<=b/\b<w'.heap.size))/\(∀ b,H.hb s' w' b->∀ o,M' b o)/\aI M' w' [] ⟨#[],[]⟩ v (bP multi own res r):=by
 have hst:=uN (n:=fn.ntmps) hvs hlt hs hh;unfold av at h;rw [hb] at h;refine callsIn_wide.1 (callsIn_of_wp_marks (n:=0) hfn hb trivial (B_ hΦ hm hints N (by simp) (by simp) c T hT _ _ _ _ hI (fun j v hj=>by cases hj) _ _ ?_ s _ _ _ hst h));intro e s2 st a w' hc hk;have key:(match dH P fn.results.toList multi own res st with | .ret r=>(open Classical in if R s2 r then (Out.ret ():Out Unit) else .fail)|_=>.fail) = .ret ()->LeavesInM Fence.wide 0 P fn a.tmps (fun e w'=>∃ v s' r,R s' r/\e = .returned v/\Fr (fun k=>k<w.heap.size/\¬ H.hb s w k) w w'/\(∀ b,H.hb s' w' b->H.hb s w b\/w.heap.size<=b) /\
  ∃ M',H.I s' M' w'/\(∀ b o,M b o->H.hb s w b\/M' b o)/\(∀ b o,M' b o->M b o\/(w.heap.size<=b/\b<w'.heap.size))/\(∀ b,H.hb s' w' b->∀ o,M' b o)/\aI M' w' [] ⟨#[],[]⟩ v (bP multi own res r)) a.defers .returning w':=by
  intro hk;split at hk;rotate_left
  . cases hk
  rename_i r2 hv;split at hk;rotate_left
  . cases hk
  rename_i hR;obtain ⟨hfr,M',hG⟩:=hc;refine gQ (M0:=jE (kz (H.hb s w) M w) (H.hb s2 w') M' w') (F:=fun b=>(b<w.heap.size/\¬ H.hb s w b)\/H.hb s2 w' b) (w0:=w') (st:=st) (by simp) (fun M2 w2 hg2 hf2=>?_) (fun D hD hF=>hF.elim hD.1 hD.2) a.defers M' w' hG.focus (Fr.refl _ _);obtain ⟨r',h1,v,h2,h3,h4⟩:=iP (fn:=fn) hg2 (by simp) hv;cases h1;have hG2:=hG.unfocus hf2 hg2;refine ⟨v,h2,v,s2,r2,hR,rfl,hfr.trans (jL hf2),fun b hb=>?_,M2,hG2.1,fun b o hM=>?_,fun b o hM=>?_,fun b hb=>(hG2.2.2 b hb).2.1,h3⟩
  . rcases Nat.lt_or_ge b w.heap.size with h5|h5
    . by_cases h6:H.hb s w b
      . exact .inl h6
      . exact absurd ⟨h5,h6⟩ (hG2.2.2 b hb).1
    . exact .inr h5
  . by_cases h6:H.hb s w b
    . exact .inl h6
    . exact .inr (hG2.2.1.up b o ⟨hM,hlt b o hM,h6⟩)
  . rcases Nat.lt_or_ge b w.heap.size with h5|h5
    . by_cases h6:H.hb s w b
      . exact .inl (hh b h6 o)
      . exact .inl (hG2.2.1.down b o ⟨h5,h6⟩ hM).1
    . exact .inr ⟨h5,hG2.2.1.lt b o hM⟩
 cases e with
 | normal=>exact key hk
 | ret=>exact key hk
 | exit i=>cases hk
end
def qn (v:Value):Nat:=match v with | .map (some b)=>b|_=>0
abbrev dd:Hole:=TO HM
def qq (nt p q d:Nat) (s:dd.σ) (st:St):Bool×Outs dd :=
 match get st p with
 | .d (.prod (.prod (.int .i64) (.prod (.list (.prod (.int .i64) (.prod (.list (.int .i64)) .unit))) .unit)) (.prod (.list (.list (.int .i64))) .unit)) tr=>(match get st q with
  | .d (.int .i64) place=>((st.length==nt && bL [d] st) && Option.isNone (show Option SM from s),.each fun v=>((some (qn v,(show TR from tr),(show Int from place)):Option SM),st.set d (.d .raw (.map (some (qn v))))))
  | _=>(false,.some []))
 | _=>(false,.some [])
theorem UM (w:World):(Instr.makeMap 89 none).run Tryz.prog w = .ok (.map (some w.heap.size)) (w.alloc (.map #[] 0)):=by
 simp [Instr.makeMap]
theorem Su {ops:Array Oper} {i p q d nt:Nat} (x0:(ops.toList.map a_)[i]? = some (some d,.makeMap 89 none,none)):dC Tryz.prog dd ops i (qq nt p q d):=by
 intro F M0 w0 n hI hpl Q K s st act w hc h1 hK;obtain ⟨o0,i0,d0,p0,q0⟩:=aB rfl x0;simp only at d0 p0 q0;unfold qq at h1;split at h1;rotate_left
 . cases h1
 rename_i tr ea;split at h1;rotate_left
 . cases h1
 rename_i place eb;simp only [Bool.and_eq_true,beq_iff_eq] at h1;obtain ⟨⟨hlen,hnb⟩,hs⟩:=h1;have hs:s=(none:Option SM):=Option.isNone_iff_eq_none.1 hs;subst hs;obtain ⟨hfr,M,hG⟩:=id hc;have hr:(execOp act.eval o0).run Tryz.prog w = .ok (.value (.map (some w.heap.size))) (w.alloc (.map #[] 0)):=by
  simp [execOp,p0,UM]
 refine aV i0 (aC q0) (fun c h=>by rw [p0] at h;cases h) hr ?_;rw [d0];have hBel:Below w.heap.size w (w.alloc (.map #[] 0)):=(Below.refl _ w).alloc (Nat.le_refl _) _;obtain ⟨M',hM'⟩:∃ M':ai,M'=fun b o=>M b o\/b=w.heap.size:=⟨_,rfl⟩
 have hI':dd.I (some (w.heap.size,(show TR from tr),(show Int from place)):Option SM) M' (w.alloc (.map #[] 0)):=⟨#[],0,heap_alloc_new w _,fun e he=>by simp at he⟩
 obtain ⟨f1,f2⟩:=hG.grow (s':=(some (w.heap.size,(show TR from tr),(show Int from place)):Option SM)) (M':=M') (w':=w.alloc (.map #[] 0)) ⟨rfl,rfl,rfl,by simp,fun k hk=>heap_alloc_old w _ hk.1⟩ hI' (fun b o h=>by rw [hM'];exact .inr (.inl h)) (fun b o h=>by
  rw [hM'] at h;rcases h with h|h
  . exact .inl h
  . subst h;exact .inr ⟨Nat.le_refl _,by simp⟩) (fun b hb=>by
  have hb:b=w.heap.size:=hb;exact .inr (Nat.le_of_eq hb.symm)) fun b hb o=>by
  have hb:b=w.heap.size:=hb;rw [hM'];exact .inr hb
 have hnb':au (get st d)=false:=by
  have:=List.all_eq_true.1 hnb d (by simp)
  simpa using this
 have hf:=f2.focus.fin (dst:=some d) (s:=.d .raw (.map (some w.heap.size))) (v:=.map (some w.heap.size)) (fun d' hd=>by cases hd;exact hnb') rfl ⟨[.map (some w.heap.size)],rfl,rfl,rfl,rfl⟩;have hmem:(qq nt p q d (none:Option SM) st).2.mem ((some (w.heap.size,(show TR from tr),(show Int from place)):Option SM),st.set d (.d .raw (.map (some w.heap.size)))):=by
  unfold qq;rw [ea];dsimp only;rw [eb];exact ⟨.map (some w.heap.size),rfl⟩
 exact hK _ hmem _ _ ⟨hfr.trans f1,M',f2.unfocus (Fr.refl _ _) hf⟩
theorem Jp {M:ai} {w:World} {v:Value} {r:TR} (h:aw M w df v r):∃ x0 x1 x2:Value,v = .agg #[x0,x1,x2]/\(x0.cells = #[x0]/\x0.oneCell'=true)/\(x1.cells = #[x1]/\x1.oneCell'=true)/\(x2.cells = #[x2]/\x2.oneCell'=true)/\af M w df [x0,x1,x2] r:=by
 obtain ⟨cs,rfl,hc⟩:=h;have hl:=af.length _ _ _ hc;have h1:=af.one _ _ _ hc
 match cs,hl,hc,h1 with
 | [x0,x1,x2],_,hc,h1 =>
  exact ⟨x0,x1,x2,rfl,(h1 x0 (by simp)).symm,(h1 x1 (by simp)).symm,(h1 x2 (by simp)).symm,hc⟩
def xm (nt d:Nat) (s:dd.σ) (st:St):Bool×Outs dd :=
 (st.length==nt && bL [d] st,.some [(s,st.set d (.box [.d (.int .i64) (0:Int),.d ba ([]:List gf),.d be ([]:List (List Int)),.d (.int .i64) (0:Int),.d .raw (.map none)]))])
theorem Pi {a:Act} {w:World} {o:Oper} (ho:o.op = .alloc 91):(execOp a.eval o).run Tryz.prog w = .ok (.value (.pointer (some ⟨w.heap.size,0,none⟩))) (w.alloc (.cells #[.int .i64 0,.slice none 0 0,.slice none 0 0,.int .i64 0,.map none] 91)):=by
 simp only [execOp,ho];simp [go_sem]
theorem KR {ops:Array Oper} {i d nt:Nat} (x0:(ops.toList.map a_)[i]? = some (some d,.alloc 91,none)):dC Tryz.prog dd ops i (xm nt d):=by
 intro F M0 w0 n hI hpl Q K s st act w hc h1 hK;obtain ⟨o0,i0,d0,p0,q0⟩:=aB rfl x0;simp only at d0 p0 q0;unfold xm at h1 hK;simp only [Bool.and_eq_true,beq_iff_eq] at h1;obtain ⟨hlen,hnb⟩:=h1;have hnb:au (get st d)=false:=by
  have:=List.all_eq_true.1 hnb d (by simp)
  simpa using this
 obtain ⟨N0,hpn,⟨hb,M,hg⟩,hback⟩:=hc.lift;have hnil:∀ (e:Ty) (M:ai) (w:World),af M w (.list e) [.slice none 0 0] ([]:List e.den):=fun e M w=>af.list_nil _
 obtain ⟨M2,hgb⟩:=hg.put_box (o:=o0) (E:=91) (fun d' hd=>by rw [d0] at hd;cases hd;exact hnb) (cs:=[.d (.int .i64) (0:Int),.d (.list (.prod (.int .i64) (.prod (.list (.int .i64)) .unit))) ([]:List gf),.d (.list (.list (.int .i64))) ([]:List (List Int)),.d (.int .i64) (0:Int),.d .raw (.map none)]) (cells := #[.int .i64 0,.slice none 0 0,.slice none 0 0,.int .i64 0,.map none])
  (fun k t xs hh h=>by match k,h with|0,h=>cases h|1,h=>cases h|2,h=>cases h|3,h=>cases h|4,h=>cases h|_+5,h=>cases h)
  (fun k t xs h=>by match k,h with|0,h=>cases h|1,h=>cases h|2,h=>cases h|3,h=>cases h|4,h=>cases h|_+5,h=>cases h)
  (fun k t xs hh v h1 h2=>by match k,h1,h2 with|0,h1,_=>cases h1|1,h1,_=>cases h1|2,h1,_=>cases h1|3,h1,_=>cases h1|4,h1,_=>cases h1|_+5,h1,_=>cases h1) rfl
  (fun k c u h1 h2=>by
   match k,h1,h2 with
   | 0,h1,h2=>cases h1;cases h2;exact rfl
   | 1,h1,h2=>cases h1;cases h2;exact hnil _ _ _
   | 2,h1,h2=>cases h1;cases h2;exact hnil _ _ _
   | 3,h1,h2=>cases h1;cases h2;exact rfl
   | 4,h1,h2=>cases h1;cases h2;exact ⟨rfl,rfl,rfl⟩
   | _+5,h1,_=>cases h1)
 refine aV i0 (aC q0) (fun c h=>by rw [p0] at h;cases h) (Pi p0) ?_;rw [d0] at hgb ⊢;exact hK _ (.head _) _ _ (hback _ _ _ ⟨hb.alloc hg.room _,M2,hgb⟩)
def zj (v:Value):Bool:=match v with | .map _=>true|_=>false
theorem Rp {v:Value} (h:zj v=true):∃ mo,v = .map mo:=by
 unfold zj at h;split at h
 . exact ⟨_,rfl⟩
 . cases h
def oF (nt a b c d:Nat) (s:dd.σ) (st:St):Bool×Outs dd :=
 match get st a with
 | .d (.prod (.prod (.int .i64) (.prod (.list (.prod (.int .i64) (.prod (.list (.int .i64)) .unit))) .unit)) (.prod (.list (.list (.int .i64))) .unit)) tr=>(match get st b with
  | .d (.int .i64) place=>(match get st c with
   | .d .raw v=>((st.length==nt && bL [d] st) && zj v,.some [(s,st.set d (.d eN ((show TR from tr),((show Int from place),((show Value from v),())))))])
   | _=>(false,.some []))
  | _=>(false,.some []))
 | _=>(false,.some [])
theorem OZ {act:Act} {w:World} {o:Oper} {a b c:Nat} (ho:o.op = .build 91 #[(0,.tmp a),(1,.tmp b),(2,.tmp c)]) {x0 x1 x2 v:Value} {place:Int} (ha:tm act a = .agg #[x0,x1,x2]) (hb:tm act b = .int .i64 place) (hc:tm act c=v)
 (c0:x0.cells = #[x0]) (c1:x1.cells = #[x1]) (c2:x2.cells = #[x2]) (c3:∃ mo,v = .map mo):(execOp act.eval o).run Tryz.prog w = .ok (.value (.agg #[x0,x1,x2,.int .i64 place,v])) w:=by
 have e0:act.eval (.tmp a) = .agg #[x0,x1,x2]:=ha;have e1:act.eval (.tmp b) = .int .i64 place:=hb;have e2:act.eval (.tmp c)=v:=hc;simp only [execOp,ho,List.map_toArray,List.map_cons,List.map_nil,e0,e1,e2];obtain ⟨mo,rfl⟩:=c3;simp [go_sem]
theorem Lu {ops:Array Oper} {i a b c d nt:Nat} (x0:(ops.toList.map a_)[i]? = some (some d,.build 91 #[(0,.tmp a),(1,.tmp b),(2,.tmp c)],none)):dC Tryz.prog dd ops i (oF nt a b c d):=by
 intro F M0 w0 n hI hpl Q K s st act w hc h1 hK;obtain ⟨o0,i0,d0,p0,q0⟩:=aB rfl x0;simp only at d0 p0 q0;unfold oF at h1;split at h1;rotate_left
 . cases h1
 rename_i tr ea;split at h1;rotate_left
 . cases h1
 rename_i placeD eb;obtain ⟨place,hpl'⟩:∃ p:Int,p=placeD:=⟨_,rfl⟩
 subst hpl';split at h1;rotate_left
 . cases h1
 rename_i v ec;simp only [Bool.and_eq_true,beq_iff_eq] at h1;obtain ⟨⟨hlen,hnb⟩,hmp⟩:=h1;have hnb:au (get st d)=false:=by
  have:=List.all_eq_true.1 hnb d (by simp)
  simpa using this
 obtain ⟨N0,hpn,⟨hb,M,hg⟩,hback⟩:=hc.lift;have sa:=hg.slot a;rw [ea] at sa;have sb:=hg.slot b;rw [eb] at sb;have sc:=hg.slot c;rw [ec] at sc;obtain ⟨y0,y1,y2,ta,c0,c1,c2,hrc⟩:=Jp (show aw M w df (tm act a) tr from sa);have tb:tm act b = .int .i64 place:=fL sb;have tc:tm act c=v:=fp (show aw M w .raw (tm act c) v from sc);have hcv:v.cells = #[v]/\v.oneCell'=true:=by
  obtain ⟨cs,_,h2,h3,h4⟩:=(show aw M w .raw (tm act c) v from sc)
  exact ⟨h3,h4⟩
 refine aV i0 (aC q0) (fun c h=>by rw [p0] at h;cases h) (OZ p0 ta tb tc c0.1 c1.1 c2.1 (Rp hmp)) ?_;rw [d0];have hmem:(oF nt a b c d s st).2.mem (s,st.set d (.d eN ((show TR from tr),(place,((show Value from v),()))))):=by
  unfold oF;rw [ea];dsimp only;rw [eb];dsimp only;rw [ec];exact .head _
 have hrepT:aw M w eN (.agg #[y0,y1,y2,.int .i64 place,v]) ((show TR from tr),(place,((show Value from v),()))) :=
  ⟨[y0,y1,y2,.int .i64 place,v],rfl,[y0,y1,y2],[.int .i64 place,v],rfl,hrc,[.int .i64 place],[v],rfl,rfl,[v],[],rfl,⟨rfl,hcv.1,hcv.2⟩,rfl⟩
 exact hK _ hmem _ _ (hback _ _ _ ⟨hb,M,hg.fin (dst:=some d) (fun d' hd=>by cases hd;exact hnb) rfl hrepT⟩)
def Ae:Array Oper:=bp 1 (av Tryz.f62)
def vB:Nat->Option (Nat×(dd.σ->St->Bool×Outs dd)):=fun i=>match i with|3=>some (0,qq 10 6 7 8)|4=>some (0,oF 10 6 7 8 9)|_=>none
theorem Ka:∀ i y,vB i=some y->bw Tryz.prog dd Ae i y.1 y.2:=by
 intro i y h;unfold vB at h;split at h
 . cases h;exact (Su (i:=3) (by kernel_rfl)).one
 . cases h;exact (Lu (i:=4) (by kernel_rfl)).one
 . cases h
def Ad:Array Oper:=bp 0 (av Tryz.f62)
def vA:Nat->Option (Nat×(dd.σ->St->Bool×Outs dd)):=fun i=>match i with|1=>some (0,xm 10 4)|_=>none
theorem J_:∀ i y,vA i=some y->bw Tryz.prog dd Ad i y.1 y.2:=by
 intro i y h;unfold vA at h;split at h
 . cases h;exact (KR (i:=1) (by kernel_rfl)).one
 . cases h
def Dg:List (List Nat×HdH dd):=[([0],⟨fun {ρ} k s st=>cf Tryz.prog dd (fun _=>ah [fw]) [] vA 0 Ad k s st⟩),([1,0],⟨fun {ρ} k s st=>cf Tryz.prog dd (fun _=>ah [fw]) [] vB 1 Ae k s st⟩)]
theorem K7:bG Tryz.prog dd (av Tryz.f62) Dg:=bJ (c' := .region 0 Ad false) (by kernel_rfl) (cr (fun s g sp hs=>.inl (eK (l:=[fw]) (fun sp h=>by rw [List.mem_singleton] at h;subst h;exact fO) g sp hs)) [] J_) (bJ (c' := .region 1 Ae false) (by kernel_rfl) (cr (fun s g sp hs=>.inl (eK (l:=[fw]) (fun sp h=>by rw [List.mem_singleton] at h;subst h;exact fO) g sp hs)) [] Ka) dU)
abbrev ov:Ty:=.prod gH (.prod (.int .i64) .unit)
open Classical in
theorem N6 (N:Nat) (x:ac×Int×Unit) (R:Option SM->RD->Prop):ct Tryz.prog dd (ah []) [] N (av Tryz.f62) Dg (Gc Tryz.prog dd Tryz.f62.results.toList false false eN R) (none:Option SM) (eM Tryz.f62.ntmps ov x) =
 (match f58 (x.1,()) with
 | .ret r=>eD fun v=>(if R (some (qn v,r,x.2.1)) (r,(x.2.1,(.map (some (qn v)),()))) then .ret () else .fail)
 | .pan _=>.fail
 | .fail=>.fail):=by
 kernel_rfl
theorem ME {x:ac×Int×Unit} {made:TR} (hf:f58 (x.1,()) = .ret made) {M:ai} {w:World} {vs:Array Value} (hI:Inv.I Tryz.prog w) (hvs:bN M w ov vs.toList x) (hlt:∀ b o,M b o->b<w.heap.size) :
 Calls Tryz.prog 62 vs w fun e w'=>∃ v s,s.2=(made,x.2.1)/\e = .returned v/\Below w.heap.size w w'/\w.heap.size<=s.1 /\
  ∃ M',HM.I s M' w'/\(∀ b o,M b o->M' b o)/\(∀ b o,M' b o->M b o\/(w.heap.size<=b/\b<w'.heap.size))/\(∀ b,HM.hb s w' b->∀ o,M' b o)/\aw M' w' eN v (bR s):=by
 have h:=N6 fuel x (fun s' r=>∃ b,s'=some (b,made,x.2.1)/\r=bR (b,made,x.2.1));rw [hf] at h;dsimp only at h;rw [iW (r:=.ret ()) fun v=>if_pos ⟨qn v,rfl,rfl⟩] at h;refine (MG mixed (eK aO) Tryz.func62 rfl K7 (s:=(none:Option SM)) (fun w' hw'=>Inv.below _ _ hI (Fr.toBelow ⟨hw'.os,hw'.tape,hw'.output,hw'.size,fun k hk=>hw'.block k ⟨hk,id⟩⟩)) trivial hvs hlt (fun b hB=>hB.elim) h).mono ?_;rintro e w' ⟨v,s',r,⟨b,rfl,rfl⟩,rfl,h1,h2,M',h3,h4,h5,h6,h7⟩;exact ⟨v,(b,made,x.2.1),rfl,rfl,Fr.toBelow ⟨h1.os,h1.tape,h1.output,h1.size,fun k hk=>h1.block k ⟨hk,id⟩⟩,(h2 b rfl).resolve_left id,M',h3,fun b o hM=>(h4 b o hM).resolve_left id,h5,h6,h7⟩
theorem G0 {g:Nat} {res:Ty} {fg:SM->RD×Unit->Out res.den} (hg:∀ s,fe Tryz.prog HM s ⟨g,.call,.prod eN .unit,res,false,false,fg s⟩) {x:ac×Int×Unit} {made:TR} (hf:f58 (x.1,()) = .ret made) {r:res.den} (hr:∀ b,fg (b,made,x.2.1) (bR (b,made,x.2.1),()) = .ret r)
 {M:ai} {w:World} {vs:Array Value} (hI:Inv.I Tryz.prog w) (hvs:bN M w ov vs.toList x) (hlt:∀ b o,M b o->b<w.heap.size) :
 Calls Tryz.prog 62 vs w fun e w1=>∃ v1,e = .returned v1/\Below w.heap.size w w1/\Calls Tryz.prog g #[v1] w1 fun e w2=>∃ v2,e = .returned v2/\Below w.heap.size w w2/\eA M w w2 false false res v2 r:=by
 refine (ME hf hI hvs hlt).mono ?_;rintro e w1 ⟨v1,s,hs,rfl,hb,hm,M1,h1,h2,h3,h4,h5⟩;refine ⟨v1,rfl,hb,?_⟩;obtain ⟨b,y⟩:=s;have hs:y=(made,x.2.1):=hs;subst hs;refine (hg _ (bR (b,made,x.2.1),()) M1 w1 #[v1] r (Inv.below _ _ hI hb) h1 ⟨v1,[],rfl,h5,rfl⟩ (fun b o hM=>(h3 b o hM).elim (fun h=>Nat.lt_of_lt_of_le (hlt b o h) hb.size) (·.2)) h4 (hr b)).mono ?_;rintro e w2 ⟨v2,rfl,hfr,_,M2,g1,g2,g3,g4⟩;refine ⟨v2,rfl,Fr.toBelow ⟨hfr.os.trans hb.os,hfr.tape.trans hb.tape,hfr.output.trans hb.output,Nat.le_trans hb.size hfr.size,fun k hk=>(hfr.block k ⟨Nat.lt_of_lt_of_le hk hb.size,fun hB=>?_⟩).trans (hb.block k hk)⟩,M2,fun b o hM=>g1 b o (h2 b o hM),fun b o hM=>?_,g3,fun b h5 h6=>Nat.le_trans hb.size (g4 b h5 h6)⟩
 . have hB:k=b:=hB;have hm:w.heap.size<=b:=hm;omega
 . rcases g2 b o hM with h|h
   . rcases h3 b o h with h|h
     . exact .inl h
     . exact .inr ⟨h.1,Nat.lt_of_lt_of_le h.2 hfr.size⟩
   . exact .inr ⟨Nat.le_trans hb.size h.1,h.2⟩
open Go.RowKit (Below)
def aJ (t:ac):TR:=(t,(jl t.2.1,()))
def nJ (t:ac) (place:Int):SM:=(0,aJ t,place)
def gM (t:ac) (place:Int):Int:=eS (nJ t place)
def aq (t:ac) (place:Int):List (List Int):=cI (nJ t place) []
structure PreT (t:ac):Prop where
 few:t.2.1.length<1000000
 par:rS t.2.1
structure PreE (t:ac) (place:Int):Prop where
 tree:PreT t
 rd:RdOK (aJ t) place
 pos:0<t.2.1.length
structure PreS (t:ac) (place:Int):Prop where
 tree:PreT t
 st:Pre64 (nJ t place)
def preE (t:ac) (place:Int):Bool := @decide (PreE t place) (Classical.propDecidable _)
def preS (t:ac) (place:Int):Bool := @decide (PreS t place) (Classical.propDecidable _)
theorem He {t:ac} {place:Int}:preE t place=true<->PreE t place:=by unfold preE;exact @decide_eq_true_iff _ (Classical.propDecidable _)
theorem nk {t:ac} {place:Int}:preS t place=true<->PreS t place:=by unfold preS;exact @decide_eq_true_iff _ (Classical.propDecidable _)
theorem zK (b:Nat) (y:TR×Int):∀ (k:Nat) (now:List Int),dP (b,y) k now=dP (0,y) k now
 | 0,now=>by unfold dP;rfl
 | k+1,now=>by
  unfold dP;simp only [zK b y k];rfl
theorem yh {t:ac} (h:PreT t):f58 (t,()) = .ret (aJ t):=by
 unfold f58;rw [if_pos ⟨h.few,h.par⟩];rfl
def H0:Hole where
 σ:=Unit
 hb _ _ _:=False
 I _ _ _:=True
 keep _ _ _ _ _ _ _ _:=trivial
 same _ _ _ _ _ _ _ h:=h
 lt _ _ _ _ _ h:=h.elim
 nd _ _ _ _ _ _ h:=h.elim
def iE (H:Hole) (res:Ty) (pre:ac->Int->Bool) (val:ac->Int->res.den) (nt p q d1 d2:Nat) (s:H.σ) (st:St):Bool×Outs H :=
 match (get st p).as gH with
 | some t=>(match (get st q).as (.int .i64) with
  | some place=>((st.length==nt && bL [d1,d2] st) && pre (show ac from t) (show Int from place),.some [(s,(bE [d1] st).set d2 (.d res (val (show ac from t) (show Int from place))))])
  | none=>(false,.some []))
 | none=>(false,.some [])
theorem G4 {H:Hole} {res:Ty} {pre:ac->Int->Bool} {val:ac->Int->res.den} {g:Nat} {fg:SM->RD×Unit->Out res.den} (hg:∀ s,fe Tryz.prog HM s ⟨g,.call,.prod eN .unit,res,false,false,fg s⟩)
 (hpre:∀ t place,pre t place=true->PreT t/\∀ b,fg (b,aJ t,place) (bR (b,aJ t,place),()) = .ret (val t place)) (hent:fG Tryz.prog g=true)
 {ops:Array Oper} {i p q d1 d2 nt:Nat} (hd1:d1<nt) (hd2:d2<nt) (hdd:d1≠d2) (x0:(ops.toList.map a_)[i]? = some (some d1,.call { callee:=.value (.func 62),args := #[.tmp p,.tmp q],argTypes := #[24,3] },none))
 (x1:(ops.toList.map a_)[i+1]? = some (some d2,.call { callee:=.value (.func g),args := #[.tmp d1],argTypes := #[91] },none)):bw Tryz.prog H ops i 1 (iE H res pre val nt p q d1 d2):=by
 intro F M0 w0 n hI hpl Q rest s st act w hc h1 hK;obtain ⟨o0,i0,e0,p0,q0⟩:=aB rfl x0;obtain ⟨o1,i1,e1,p1,q1⟩:=aB rfl x1;simp only at e0 p0 q0 e1 p1 q1;unfold iE at h1;split at h1;rotate_left
 . cases h1
 rename_i t ea;split at h1;rotate_left
 . cases h1
 rename_i placeD eb;obtain ⟨place,hpl'⟩:∃ z:Int,z=placeD:=⟨_,rfl⟩
 subst hpl';simp only [Bool.and_eq_true,beq_iff_eq] at h1;obtain ⟨⟨hlen,hnb⟩,hpr⟩:=h1;obtain ⟨hT,hval⟩:=hpre t place hpr;show wpOpsIn (aA none) n Tryz.prog ops Q (i :: (i+1) :: rest) act w;rw [wpOpsIn_cons];obtain ⟨N0,hpn,hcl,hback⟩:=hc.lift;obtain ⟨hb,M,hg'⟩:=id hcl;have hsz:act.tmps.size=nt:=hg'.size.trans hlen;have hIw:Inv.I Tryz.prog w:=hI w hc.1;have hra:aw M w gH (tm act p) t:=cO (hg'.slot p) ea;have hrb:aw M w (.int .i64) (tm act q) place:=cO (hg'.slot q) eb;have hr0:(execOp act.eval o0).run Tryz.prog w = .ok (.enter 62 #[tm act p,tm act q]) w:=by
  have e0:act.eval (.tmp p)=tm act p:=rfl;have e1:act.eval (.tmp q)=tm act q:=rfl;have e3:=fun args=>dK (P:=Tryz.prog) (g:=62) (by kernel_rfl) args w
  have e4:act.eval (.func 62) = .func (.func 62) #[] #[]:=rfl;simp [execOp,p0,resolve,e0,e1,e4,Deferred.ofValue,invoke,e3]
 refine gw i0 (aC q0) (fun c h=>by rw [p0] at h;cases h) hr0 ?_;have hvs:bN M w ov #[tm act p,tm act q].toList (t,(place,())):=⟨_,_,rfl,hra,_,_,rfl,hrb,rfl⟩
 refine (G0 hg (x:=(t,place,())) (yh hT) (r:=val t place) (fun b=>hval b) hIw hvs hg'.lt).mono ?_;rintro e w1 ⟨v1,rfl,_,hc2⟩;refine ⟨v1,rfl,?_⟩;rw [e0,wpOpsIn_cons];have hr1:(execOp (act.put (some d1) v1).eval o1).run Tryz.prog w1 = .ok (.enter g #[v1]) w1:=by
  have e0:(act.put (some d1) v1).eval (.tmp d1)=v1:=ay (by omega);have e3:=fun args=>dK (P:=Tryz.prog) (g:=g) hent args w1
  have e4:(act.put (some d1) v1).eval (.func g) = .func (.func g) #[] #[]:=rfl;simp [execOp,p1,resolve,e0,e4,Deferred.ofValue,invoke,e3]
 refine gw i1 (aC q1) (fun c h=>by rw [p1] at h;cases h) hr1 ?_;refine hc2.mono ?_;rintro e w2 ⟨v2,rfl,hbel,hres⟩;refine ⟨v2,rfl,?_⟩;have nb:∀ d∈[d1,d2],au (get st d)=false:=fun d hd=>by
  have:=List.all_eq_true.1 hnb d hd
  simpa using this
 have g1:=hg'.fin (dst:=some d1) (s:=.und) (v:=v1) (fun d' hd=>by cases hd;exact nb d1 (by simp)) rfl trivial;have hnb2:dj o1 (st.set d1 .und)=false:=by
  unfold dj;rw [e1];show au (get (st.set d1 .und) d2)=false;rw [bu st _ _ _ (by omega),if_neg (by omega)];exact nb d2 (by simp)
 obtain ⟨M',g2⟩:=Good.res (o:=o1) g1 hnb2 hbel hres;rw [e1] at g2 ⊢;have hmem:(iE H res pre val nt p q d1 d2 s st).2.mem (s,(bE [d1] st).set d2 (.d res (val t place))):=by
  unfold iE;rw [ea];dsimp only;rw [eb];exact .head _
 exact hK _ hmem _ _ (hback _ _ _ ⟨Fr.below hbel hg'.room,M',g2⟩)
theorem OP {H:Hole} {ops:Array Oper} {i p q d1 d2 nt:Nat} (hd1:d1<nt) (hd2:d2<nt) (hdd:d1≠d2) (x0:(ops.toList.map a_)[i]? = some (some d1,.call { callee:=.value (.func 62),args := #[.tmp p,.tmp q],argTypes := #[24,3] },none))
 (x1:(ops.toList.map a_)[i+1]? = some (some d2,.call { callee:=.value (.func 63),args := #[.tmp d1],argTypes := #[91] },none)):bw Tryz.prog H ops i 1 (iE H (.int .i64) preE gM nt p q d1 d2):=by
 refine G4 DW (fun t place h=>?_) (by kernel_rfl) hd1 hd2 hdd x0 x1;have h:=He.1 h;refine ⟨h.tree,fun b=>?_⟩;unfold f63;rw [if_pos ⟨rfl,h.rd,h.pos⟩];rfl
theorem BO {H:Hole} {ops:Array Oper} {i p q d1 d2 nt:Nat} (hd1:d1<nt) (hd2:d2<nt) (hdd:d1≠d2) (x0:(ops.toList.map a_)[i]? = some (some d1,.call { callee:=.value (.func 62),args := #[.tmp p,.tmp q],argTypes := #[24,3] },none))
 (x1:(ops.toList.map a_)[i+1]? = some (some d2,.call { callee:=.value (.func 64),args := #[.tmp d1],argTypes := #[91] },none)):bw Tryz.prog H ops i 1 (iE H be preS aq nt p q d1 d2):=by
 refine G4 DX (fun t place h=>?_) (by kernel_rfl) hd1 hd2 hdd x0 x1;have h:=nk.1 h;refine ⟨h.tree,fun b=>?_⟩;unfold f64;rw [if_pos ⟨rfl,⟨h.st.rd,h.st.par,h.st.pos,h.st.few⟩⟩];show Out.ret (cI (b,aJ t,place) []) = .ret (aq t place);unfold aq cI nJ;rw [zK]
def dY {σ α:Type}:Out (σ×α)->Out α
 | .ret (_,r)=>.ret r
 | _=>.fail
theorem Ek {σ α:Type} {o:Out (σ×α)} {r:α} (h:dY o = .ret r):∃ s,o = .ret (s,r):=by
 unfold dY at h;split at h
 . cases h;exact ⟨_,rfl⟩
 . cases h
theorem Ej {σ α:Type} {o:Out (σ×α)} {p:Value} (h:dY o = .pan p):False:=by
 unfold dY at h;split at h<;>cases h
theorem jI {H:Hole} (s0:H.σ) (h0:∀ w b,¬ H.hb s0 w b) (hI0:∀ M w,H.I s0 M w) {l:List Spec} (hl:∀ sp∈l,am Tryz.prog sp) {fnn:Nat} {arg res:Ty} {multi own:Bool} {F:arg.den->Out (H.σ×res.den)} {fn:Func} {c:Code}
 (hfn:Tryz.prog.funcs[fnn]? = some fn) (hb:fn.body=some c) {T:List (List Nat×HdH H)} (hT:bG Tryz.prog H c T) (hints:List (Nat×List Nat)) (n:Nat)
 (h:∀ x,cD Tryz.prog H (ah l) hints n T fn multi own arg res s0 x=F x):am Tryz.prog ⟨fnn,.call,arg,res,multi,own,fun x=>dY (F x)⟩:=by
 refine Ee (s:=s0) mixed hl hfn hb hT hints h0 hI0 (fun x p hp=>Ej hp) fun x r hr=>?_
 obtain ⟨s',hs⟩:=Ek hr;exact ⟨n,s',(h x).trans hs⟩
theorem Ec {l:List Spec} (hl:∀ sp∈l,am Tryz.prog sp) {fnn:Nat} {arg res:Ty} {multi own:Bool} {F:arg.den->Out (Unit×res.den)} {fn:Func} {c:Code}
 (hfn:Tryz.prog.funcs[fnn]? = some fn) (hb:fn.body=some c) {T:List (List Nat×HdH H0)} (hT:bG Tryz.prog H0 c T) (hints:List (Nat×List Nat)) (n:Nat)
 (h:∀ x,cD Tryz.prog H0 (ah l) hints n T fn multi own arg res () x=F x):am Tryz.prog ⟨fnn,.call,arg,res,multi,own,fun x=>dY (F x)⟩ :=
 jI (H:=H0) () (fun w b h=>h) (fun M w=>trivial) hl hfn hb hT hints n h
end Go.V
end
