/- A part of the proof of a law of the copies. -/
import Derived.Test.YtmkbnifehdhbbabGreatDoorCG
import Derived.Tactics
set_option linter.all false
noncomputable section
namespace Go.V
open Go.Proofs
open Go.RowKit (Below)
def reg89:Array Oper:=match findRegion 0 (bodyOf Tryz.f75) with|some o=>o|none => #[]
theorem info89:reg89.toList.map opInfo=[
 (some 2,.load 9 (.tmp 0),none),
 (some 3,.call { callee:=.value (.func 76),args := #[.tmp 2],argTypes := #[9] },none),
 (none,.store 24 (.tmp 1) (.tmp 3),none)]:=by kernel_rfl
theorem size89:reg89.size=3:=by kernel_rfl
theorem body89:Tryz.f75.body=some (.region 0 reg89 false):=by kernel_rfl
theorem info_at89 {i:Nat} {x:Option Tmp×Op×Option (Nat×Bool)} (hx:(reg89.toList.map opInfo)[i]? = some x):∃ o,reg89[i]? = some o/\o.dst=x.1/\o.op=x.2.1/\o.guard=x.2.2:=by
 rw [List.getElem?_map,Array.getElem?_toList] at hx;cases h:reg89[i]? with
 | none=>rw [h] at hx;cases hx
 | some o=>rw [h] at hx;cases hx;exact ⟨o,rfl,rfl,rfl,rfl⟩
theorem ex_load9 {a:Act} {w:World} {o:Oper} (ho:o.op = .load 9 (.tmp 0)) {b:Nat} {s:ByteArray} (ht:tm a 0 = .pointer (some ⟨b,0,none⟩)) (hh:w.cell? ⟨b,0,none⟩=some (.string s)):(execOp a.eval o).run Tryz.prog w = .ok (.value (.string s)) w:=by
 have e1:a.eval (.tmp 0) = .pointer (some ⟨b,0,none⟩):=ht;simp only [execOp,ho,e1];simp [go_sem,hh]
theorem ex_call90 {a:Act} {w:World} {o:Oper} {v:Value} (ho:o.op = .call { callee:=.value (.func 76),args := #[.tmp 2],argTypes := #[9] }) (h1:tm a 2=v):(execOp a.eval o).run Tryz.prog w = .ok (.enter 76 #[v]) w:=by
 have e1:a.eval (.tmp 2)=v:=h1;have e4:a.eval (.func 76) = .func (.func 76) #[] #[]:=rfl;have e3:=enters_run (P:=Tryz.prog) (g:=76) (by kernel_rfl) #[v] w;simp [execOp,ho,resolve,e1,e4,Deferred.ofValue,invoke,e3]
theorem ex_store89 {a:Act} {w:World} {o:Oper} (ho:o.op = .store 24 (.tmp 1) (.tmp 3)) {b T:Nat} {c0 c1 v0 v1:Value} (h1:tm a 1 = .pointer (some ⟨b,0,none⟩)) (h3:tm a 3 = .agg #[v0,v1]) (hh:w.heap[b]? = some (.cells #[c0,c1] T (0,0)))
 (ho1:∀ v∈[v0,v1],v.oneCell'=true):(execOp a.eval o).run Tryz.prog w = .ok .skip (w.setRow b #[v0,v1]):=by
 have e1:a.eval (.tmp 1) = .pointer (some ⟨b,0,none⟩):=h1;have e3:a.eval (.tmp 3) = .agg #[v0,v1]:=h3;have hrun:=run_storeVar (P:=Tryz.prog) (n:=9) (T:=24) (t:=TREET) (by kernel_rfl) (o:=0) (v:=.agg #[v0,v1]) rfl hh (by show 0+2<=2;omega) ho1
 simp only [execOp,ho,e1,e3,Instr.storeAt,Instr.sureAddr,Sem.run_bind,Sem.run_pure,Result.andThen_ok];rw [hrun];rfl
theorem read1_ret {w:World} {b1 b4:Nat} {s:List UInt8} (h1:w.cell? ⟨b1,0,none⟩=some (.string ⟨⟨s⟩⟩)) {R:Value->Value->World->Prop}
 (h4:∀ v0 v1 w',R v0 v1 w'->(∃ c0 c1 T4,w'.heap[b4]? = some (.cells #[c0,c1] T4 (0,0)))/\∀ v∈[v0,v1],v.oneCell'=true)
 (h:Calls Tryz.prog 76 #[.string ⟨⟨s⟩⟩] w fun e w'=>∃ v0 v1,e = .returned (.agg #[v0,v1])/\R v0 v1 w') :
 Calls Tryz.prog 75 #[.pointer (some ⟨b1,0,none⟩),.pointer (some ⟨b4,0,none⟩)] w fun e w'=>(∃ u,e = .returned u)/\∃ v0 v1 w2,R v0 v1 w2/\w'=w2.setRow b4 #[v0,v1]:=by
 refine (callsIn_wide (n:=0)).1 (callsIn_of_wp Tryz.func75 body89 trivial (wpIn_region ?_));rw [size89];obtain ⟨o0,i0,d0,p0,q0⟩:=info_at89 (i:=0) (x:=(some 2,.load 9 (.tmp 0),none)) (by rw [info89];rfl);obtain ⟨o1,i1,d1,p1,q1⟩:=info_at89 (i:=1) (x:=(some 3,.call { callee:=.value (.func 76),args := #[.tmp 2],argTypes := #[9] },none)) (by rw [info89];rfl)
 obtain ⟨o2,i2,d2,p2,q2⟩:=info_at89 (i:=2) (x:=(none,.store 24 (.tmp 1) (.tmp 3),none)) (by rw [info89];rfl);show wpOpsIn (fen none) 0 Tryz.prog reg89 _ [0,1,2] _ w;rw [Tryz.ntmps75,wpOpsIn_cons];refine opn_value i0 (wanted_none q0) (fun c h=>by rw [p0] at h;cases h) (ex_load9 p0 rfl h1) ?_
 rw [d0,wpOpsIn_cons];refine opn_enter i1 (wanted_none q1) (fun c h=>by rw [p1] at h;cases h) (ex_call90 p1 rfl) (h.mono ?_);rintro e w2 ⟨v0,v1,rfl,hR⟩;obtain ⟨⟨c0,c1,T4,h4'⟩,h1'⟩:=h4 _ _ _ hR;refine ⟨_,rfl,?_⟩;rw [d1,wpOpsIn_cons]
 refine opn_skipped i2 (wanted_none q2) (fun c h=>by rw [p2] at h;cases h) (ex_store89 p2 rfl rfl h4' h1') ?_;rw [d2];refine bodyPost_end (results_none rfl _ _ _) rfl ?_;exact ⟨⟨_,rfl⟩,v0,v1,w2,hR,rfl⟩
theorem read1_pan {w:World} {b1 b4:Nat} {s:List UInt8} (h1:w.cell? ⟨b1,0,none⟩=some (.string ⟨⟨s⟩⟩)) {R:List PanicEntry->World->Prop}
 (h:Calls Tryz.prog 76 #[.string ⟨⟨s⟩⟩] w fun e w'=>∃ c,e = .panicked c/\R c w') :
 Calls Tryz.prog 75 #[.pointer (some ⟨b1,0,none⟩),.pointer (some ⟨b4,0,none⟩)] w fun e w'=>∃ c,e = .panicked c/\R c w':=by
 refine (callsIn_wide (n:=0)).1 (callsIn_of_wp Tryz.func75 body89 trivial (wpIn_region ?_));rw [size89];obtain ⟨o0,i0,d0,p0,q0⟩:=info_at89 (i:=0) (x:=(some 2,.load 9 (.tmp 0),none)) (by rw [info89];rfl);obtain ⟨o1,i1,d1,p1,q1⟩:=info_at89 (i:=1) (x:=(some 3,.call { callee:=.value (.func 76),args := #[.tmp 2],argTypes := #[9] },none)) (by rw [info89];rfl)
 show wpOpsIn (fen none) 0 Tryz.prog reg89 _ [0,1,2] _ w;rw [Tryz.ntmps75,wpOpsIn_cons];refine opn_value i0 (wanted_none q0) (fun c h=>by rw [p0] at h;cases h) (ex_load9 p0 rfl h1) ?_;rw [d0,wpOpsIn_cons];refine opn_enter_pan i1 (wanted_none q1) (fun c h=>by rw [p1] at h;cases h) (ex_call90 p1 rfl) (h.mono ?_)
 rintro e w2 ⟨c,rfl,hR⟩;exact ⟨c,rfl,rfl,c,rfl,hR⟩
end Go.V
namespace Go.V
open Go.Proofs
def specs90:List Spec:=[sp112,sp113,sp114,sp115]
def hints90:List (Nat×List Nat):=[(9,[0,2,6,44,45,46])]
def L90_0 (N:Nat) (n_L90_0:Nat) (x:lt7) (r_1:(List (List UInt8))) (t2_13:Int) (t2_14:(List (Int×lt0))) (t_15:Int) (t_16:(List (Int×lt0))) (t46_17:Int):Out (Int×lt22) :=
 vloop Tryz.prog (phi specs90) hints90 N Tryz.f76 false false ty12 [.at 1,.at 1,.at 1,.at 1,.at 1,.at 1,.at 1,.at 1,.at 0,.at 1,.at 0] n_L90_0 [.d .str x.1,U,.box [.d (.int .i64) t2_13,.own ty20 t2_14 false],U,U,U,.box [.d (.int .i64) t_15,.own ty20 t_16 false],U,U,U,U,U,U,U,U,U,U,U,U,U,U,U,U,U,U,U,U,U,U,U,U,U,U,U,U,U,U,U,U,U,U,U,U,U,.d (.list .str) (cut r_1 (1:Int) (IntKind.i64.wrap ((lenI r_1) - (2:Int)))),.d (.int .i64) (lenI (cut r_1 (1:Int) (IntKind.i64.wrap ((lenI r_1) - (2:Int))))),.d (.int .i64) t46_17,U,U,U,U,U,U,U,U,U,U,U,U,U,U,U,U,U,U,U,U,U,U,U,U,U,U,U,U,U,U,U,U,U,U,U,U,U,U,U,U]
def F90 (N:Nat) (x:lt7):Out (Int×lt22):=match f112 (x.1,(([10]:List UInt8),())) with | .ret r_1=>(match f113 ((decide ((lenI r_1) >= 3)),(x.1,())) with | .ret r_3=>bif (inb 0 r_1.length) then match f112 ((List.getD r_1 (0:Int).toNat ([]:List UInt8)),(([32]:List UInt8),())) with | .ret r_5=>(match f113 (((lenI r_5)==2),(x.1,())) with | .ret r_7=>bif (inb 1 r_5.length) then match f114 ((List.getD r_5 (1:Int).toNat ([]:List UInt8)),(false,())) with | .ret r_9=>(match f113 (((lenI r_9)==1),(x.1,())) with | .ret r_11=>bif (inb 0 r_9.length) then bif (cutOk 1 (IntKind.i64.wrap ((lenI r_1) - 2)) (lenI r_1)) then L90_0 N N x r_1 0 ([]:List (Int×lt0)) (List.getD r_9 (0:Int).toNat 0) ([]:List (Int×lt0)) 0 else .fail else .fail | .pan p=>.pan p | .fail=>.fail) | .pan p=>.pan p | .fail=>.fail else .fail | .pan p=>.pan p | .fail=>.fail) | .pan p=>.pan p | .fail=>.fail else .fail | .pan p=>.pan p | .fail=>.fail) | .pan p=>.pan p | .fail=>.fail
theorem e90 (N:Nat) (x:lt7):vfnE Tryz.prog (phi specs90) hints90 N (fun {ρ} k st=>E90 (phi specs90) hints90 k st) [1,1,1,1,1,1,1,0] Tryz.f76 false false (.prod .str .unit) ty12 x=F90 N x:=by kernel_rfl
def f90 (x:lt7):Out (Int×lt22):=F90 fuel x
def sp90:Spec:=⟨76,.call,(.prod .str .unit),ty12,false,false,f90⟩
theorem way90:atWay [1,1,1,1,1,1,1,0] (bodyOf Tryz.f76)=some (.region 7 r790 false):=by kernel_rfl
theorem c90:Contract Tryz.prog sp90:=contract_cutE (l:=specs90) (arg:=(.prod .str .unit)) (res:=ty12) (multi:=false) (own:=false) (F:=f90) mixed (all_cons c112 (all_cons c113 (all_cons c114 (all_cons c115 all_nil)))) (c:=bodyOf Tryz.f76) (r:=.region 7 r790 false) Tryz.func76 (by kernel_rfl) (E:=(fun {ρ} k st=>E90 (phi specs90) hints90 k st)) (path:=[1,1,1,1,1,1,1,0]) way90 (e90_ok (phi_ok (all_cons c112 (all_cons c113 (all_cons c114 (all_cons c115 all_nil))))) hints90) hints90 fun x _=>⟨fuel,e90 fuel x⟩
end Go.V
namespace Go.V
open Go.Proofs
open Go.RowKit (Below)
def reg4:Array Oper:=match findRegion 4 (bodyOf Tryz.f39) with|some o=>o|none => #[]
theorem info4:reg4.toList.map opInfo=[
 (some 10,.makeFunc (.func 75) #[] #[.tmp 1,.tmp 4],none),
 (some 11,.call { callee:=.value (.func 74),args := #[.tmp 10],argTypes := #[1] },none),
 (some 5,.assign (.tmp 11),none)]:=by kernel_rfl
theorem size4:reg4.size=3:=by kernel_rfl
def errOf (p:Value):Option Int :=
 match p with
 | .iface T (.agg cs)=>bif cs.size==1 && cs.toList.all (·.oneCell') then (bif T==144 then some 7 else bif T==146 then some 4 else none) else none
 | _=>none
theorem errOf_some {p:Value} {e:Int} (h:errOf p=some e):∃ T cs,p = .iface T (.agg cs)/\cs.size=1/\cs.toList.all (·.oneCell')=true/\((T=144/\e=7)\/(T=146/\e=4)):=by
 unfold errOf at h;split at h
 . rename_i T cs;cases hc:(cs.size==1 && cs.toList.all (·.oneCell')) with
   | false=>rw [hc] at h;cases h
   | true =>
    rw [hc] at h;simp only [Bool.and_eq_true,beq_iff_eq] at hc;refine ⟨T,cs,rfl,hc.1,hc.2,?_⟩;cases h1:T==144 with
    | true=>rw [h1] at h;cases h;exact .inl ⟨by simpa using h1,rfl⟩
    | false =>
     rw [h1] at h;cases h2:T==146 with
     | true=>rw [h2] at h;cases h;exact .inr ⟨by simpa using h2,rfl⟩
     | false=>rw [h2] at h;cases h
 . cases h
def errOut (p:Value):Out Int:=match errOf p with|some e=>.ret e|none=>.fail
theorem errOut_ret {p:Value} {e:Int} (h:errOut p = .ret e):errOf p=some e:=by
 unfold errOut at h;split at h
 . rename_i h2;cases h;exact h2
 . cases h
theorem errOut_pan (p q:Value):errOut p ≠ .pan q:=by
 unfold errOut;split<;>simp
def clr4 (st:St):St:=((st.map dropS).set 10 .und).set 11 .und
def g4 (st:St):RT:=match get st 1 with
 | .box [.d .str s]=>(match get st 4 with
  | .box [_,_]=>(match isBox (get st 10) || isBox (get st 11) || isBox (get st 5) || !(st.length==21) with
   | true=>.fail
   | false=>.onOut TREET (f90 (s,())) (fun r=>.ret (((((st.map dropS).set 4 (.box [.d (.int .i64) r.1,.d (.list CPYT) r.2.1])).set 10 .und).set 11 .und).set 5 (.d (.int .i64) (0:Int))))
    (fun p=>.onOut (.int .i64) (errOut p) (fun e=>.ret ((clr4 st).set 5 (.d (.int .i64) e))) (fun _=>.fail)))
  | _=>.fail)
 | _=>.fail
theorem ex_make89 {a:Act} {w:World} {o:Oper} (ho:o.op = .makeFunc (.func 75) #[] #[.tmp 1,.tmp 4]):(execOp a.eval o).run Tryz.prog w = .ok (.value (.func (.func 75) #[] #[tm a 1,tm a 4])) w:=by
 simp [execOp,ho,Instr.makeFunc,Act.eval]
theorem ex_call81 {a:Act} {w:World} {o:Oper} {v:Value} (ho:o.op = .call { callee:=.value (.func 74),args := #[.tmp 10],argTypes := #[1] }) (h1:tm a 10=v):(execOp a.eval o).run Tryz.prog w = .ok (.enter 74 #[v]) w:=by
 have e1:a.eval (.tmp 10)=v:=h1;have e4:a.eval (.func 74) = .func (.func 74) #[] #[]:=rfl;have e3:=enters_run (P:=Tryz.prog) (g:=74) (by kernel_rfl) #[v] w;simp [execOp,ho,resolve,e1,e4,Deferred.ofValue,invoke,e3]
theorem cell_alloc {w:World} {p:Addr} {v:Value} (h:w.cell? p=some v) (o:Obj):(w.alloc o).cell? p=some v:=cell_below h ((Below.refl _ _).alloc (Nat.le_refl _) o)
theorem arr_one {cs:Array Value} (h:cs.size=1):∃ c,cs = #[c]:=by
 match cs,h with
 | ⟨[c]⟩,_=>exact ⟨c,rfl⟩
theorem tail4 {F:Nat->Prop} {M0:Base} {w0:World} {n:Nat} {Q:Exit->Act->World->Prop} {st:St} {a:Act} {w:World} (hsz:a.tmps.size=21) (e:Int)
 (hcall:Calls Tryz.prog 74 #[.func (.func 75) #[] #[tm a 1,tm a 4]] w fun x w'=>x = .returned (.int .i64 e)/\Fr F w0 w'/\∃ M,Good M0 F M st a w')
 (h10:isBox (get st 10)=false) (h11:isBox (get st 11)=false) (h5:isBox (get st 5)=false)
 (hQ:∀ a w,Conc F M0 w0 (((st.set 10 .und).set 11 .und).set 5 (.d (.int .i64) e)) a w->Q .normal a w):(Code.region 4 reg4 false).wpIn (fen none) n Tryz.prog Q a w:=by
 obtain ⟨o0,i0,d0,p0,q0⟩:=infoAt info4 (i:=0) rfl;obtain ⟨o1,i1,d1,p1,q1⟩:=infoAt info4 (i:=1) rfl;obtain ⟨o2,i2,d2,p2,q2⟩:=infoAt info4 (i:=2) rfl;refine wpIn_region ?_;rw [size4];show wpOpsIn (fen none) n Tryz.prog reg4 Q [0,1,2] a w
 rw [wpOpsIn_cons];refine opn_value i0 (wanted_none q0) (fun c h=>by rw [p0] at h;cases h) (ex_make89 p0) ?_;rw [d0,wpOpsIn_cons];refine opn_enter i1 (wanted_none q1) (fun c h=>by rw [p1] at h;cases h) (ex_call81 p1 (tm_put_same (by omega))) (hcall.mono ?_)
 rintro x w' ⟨rfl,hfr,M,hg⟩;refine ⟨_,rfl,?_⟩;rw [d1,wpOpsIn_cons];refine opn_value i2 (wanted_none q2) (fun c h=>by rw [p2] at h;cases h) (ex_assign p2) ?_;rw [d2,tm_put_same (by rw [size_put];omega)];refine hQ _ _ ⟨hfr,M,?_⟩
 have g1:=put_und hg h10 (.func (.func 75) #[] #[tm a 1,tm a 4]);have g2:=put_und g1 (d:=11) (by rw [get_setne (by omega)];exact h11) (.int .i64 e);exact g2.fin (dst:=some 5) (s:=.d (.int .i64) e) (v:=.int .i64 e) (fun d hd=>by cases hd;rw [get_setne (by omega),get_setne (by omega)];exact h5) rfl ⟨[_],rfl,rfl⟩
theorem good_ret {F:Nat->Prop} {M0:Base} {st:St} {a:Act} {w W2 w':World} {M M2:Mut} (hg:Good M0 F M st a w) {i b4:Nat} {cs:List C} {c0 c1 v0 v1:Value} {T4:TypeId} {r:TREET.den} (hi:get st i = .box cs) (hcs:cs.length=2)
 (hti:tm a i = .pointer (some ⟨b4,0,none⟩)) (hh:w.heap[b4]? = some (.cells #[c0,c1] T4 (0,0)))
 (hb:Below w.heap.size w W2) (hsz:w.heap.size<W2.heap.size) (hM2:∀ b o,(M b o\/b=w.heap.size)->M2 b o) (hM2':∀ b o,M2 b o->(M b o\/b=w.heap.size)\/(w.heap.size<b/\b<W2.heap.size)) (hcell:∃ cs T,W2.heap[w.heap.size]? = some (.cells cs T (0,0)))
 (hrep:RepC M2 W2 (.list CPYT) [v1] r.2.1) (hv0:v0 = .int .i64 r.1) (hfr:Fr (fun b=>b<W2.heap.size/\b≠w.heap.size) (W2.setRow b4 #[v0,v1]) w') :
 Good M0 F M2 (st.set i (.box [.d (.int .i64) r.1,.d (.list CPYT) r.2.1])) a w':=by
 subst hv0;have hb4:b4<w.heap.size:=(Array.getElem?_eq_some_iff.1 hh).1;have hstab:Stable M w M2 W2:=fun b o u p q=>by
  have hlt:=cell_lt p;refine ⟨(hb.cell (p:=⟨b,o,none⟩) hlt).trans p,fun h=>?_⟩;rcases hM2' b o h with (h|h)|⟨h,_⟩
  . exact q h
  . omega
  . omega
 have G2:Good M0 F M2 st a W2:=by
  refine hg.world hstab hb.size (fun b o h=>hM2 b o (.inl (hg.up b o h))) (fun b o h=>?_) (fun b o hlt h=>?_) (KeepsD.below hb) fun i k b ho=>⟨hb.block b (owns_lt hg.slot ho),fun o h=>hM2 b o (.inl h)⟩
  . rcases hM2' b o h with (h|h)|⟨_,h⟩
    . exact Nat.lt_of_lt_of_le (hg.lt b o h) hb.size
    . omega
    . exact h
  . have hr:=hg.room b hlt;rcases hM2' b o h with (h|h)|⟨h,_⟩
    . exact hg.down b o hlt h
    . omega
    . omega
 have hh2:W2.heap[b4]? = some (.cells #[c0,c1] T4 (0,0)):=(hb.block b4 hb4).trans hh;have G3:=G2.setbox (cs':=[.d (.int .i64) r.1,.d (.list CPYT) r.2.1]) (row := #[.int .i64 r.1,v1]) hi hti hh2 rfl
  (fun k c u h1 h2=>by
   match k,h1,h2 with
   | 0,h1,h2=>cases h1;cases h2;exact rfl
   | 1,h1,h2=>cases h1;cases h2;exact hrep
   | _+2,h1,_=>cases h1)
  (fun k u ys h=>by match k,h with|0,h=>cases h|1,h=>cases h|_+2,h=>cases h)
  (fun k u ys h=>by match k,h with|0,h=>cases h|1,h=>cases h|_+2,h=>cases h)
  (fun k c v g h hc=>by match k,h with|0,h=>cases h;cases hc|1,h=>cases h;cases hc|_+2,h=>cases h)
  (fun k k' c v g c1 v' h hc=>by match k,h with|0,h=>cases h;cases hc|1,h=>cases h;cases hc|_+2,h=>cases h)
 obtain ⟨ce,Te,hce⟩:=hcell;have hne:w.heap.size≠b4:=by omega
 have hce3:(W2.setRow b4 #[.int .i64 r.1,v1]).heap[w.heap.size]? = some (.cells ce Te (0,0)):=(setRow_other W2 b4 _ _ hne).trans hce;have hsz3:(W2.setRow b4 #[.int .i64 r.1,v1]).heap.size=W2.heap.size:=by simp
 have hil:i<st.length:=by
  rcases Nat.lt_or_ge i st.length with h'|h'
  . exact h'
  . rw [get_oob h'] at hi;cases hi
 have hown:∀ j k b,owns (st.set i (.box [.d (.int .i64) r.1,.d (.list CPYT) r.2.1])) a (W2.setRow b4 #[.int .i64 r.1,v1]) j k b->b<w.heap.size:=by
  intro j k b ho
  by_cases hj:j=i
  . subst hj;cases k with
    | none=>have:=ho.2;rw [hti] at this;cases this;exact hb4
    | some k =>
     obtain ⟨cs',x0,_,_,e1,e2,e3,_⟩:=ho;rw [get_set _ _ _ _ hil,if_pos rfl] at e1;cases e1
     match k,e2 with
     | 0,e2=>cases e2;cases e3
     | 1,e2=>cases e2;cases e3
     | _+2,e2=>cases e2
  . cases k with
    | none =>
     obtain ⟨e1,e2⟩:=ho;rw [get_set _ _ _ _ hil,if_neg hj] at e1;exact owns_lt hg.slot (k:=none) (i:=j) ⟨e1,e2⟩
    | some k =>
     obtain ⟨cs',x0,cb,v,e1,e2,e3,e4,e5,e6⟩:=ho;rw [get_set _ _ _ _ hil,if_neg hj] at e1;have hcb:owns st a w j none cb:=⟨by rw [e1];rfl,e4⟩
     have hcblt:=owns_lt hg.slot hcb;have hcbne:cb≠b4:=fun e=>by
      subst e;exact hj (hg.one j none i none cb hcb ⟨by rw [hi];rfl,by rw [hti];rfl⟩).1
     have e5':w.cell? ⟨cb,k,none⟩=some v:=by
      rw [World.cell?_of_block (setRow_other W2 b4 cb _ hcbne),World.cell?_of_block (hb.block cb hcblt)] at e5;exact e5
     exact owns_lt hg.slot (i:=j) (k:=some k) ⟨cs',x0,cb,v,e1,e2,e3,e4,e5',e6⟩
 refine G3.world ?_ (by have:=hfr.size;omega) G3.up (fun b o h=>?_) G3.down ?_ fun j k b ho=>?_
 . intro b o u p q;have hlt:=cell_lt p;rw [hsz3] at hlt;refine ⟨(World.cell?_of_block (hfr.block b ⟨hlt,fun e=>?_⟩)).trans p,q⟩;exact q (hM2 b o (.inr e))
 . have:=G2.lt b o h;have:=hfr.size;omega
 . intro D c e;have hlt:=(Array.getElem?_eq_some_iff.1 e).1;rw [hsz3] at hlt;exact (hfr.block D ⟨hlt,fun e'=>by rw [e',hce3] at e;cases e⟩).trans e
 . have:=hown j k b ho;exact ⟨hfr.block b ⟨by omega,by omega⟩,fun _ h=>h⟩
theorem two_args (x y:Value):(#[x,y]:Array Value) = #[] ++ #[x,y]:=by simp
theorem reg4_ok:RegOK Tryz.prog (.region 4 reg4 false) g4:=by
 intro ρ F M0 w0 n hI hpl k fin Q hf hk st a w hc h;unfold g4 at h;split at h;rotate_left
 . exact absurd h.symm hf
 rename_i s hs1;split at h;rotate_left
 . exact absurd h.symm hf
 rename_i x0 x1 hs4;split at h
 . exact absurd h.symm hf
 rename_i hnb;simp only [Bool.or_eq_false_iff] at hnb;obtain ⟨⟨⟨n10,n11⟩,n5⟩,hlen⟩:=hnb;have hlen:st.length=21:=by simpa using hlen
 obtain ⟨hfr,M,hg⟩:=hc.drop;have hm:∀ i,get (st.map dropS) i=dropS (get st i):=fun i=>get_map st i
 have hsz:a.tmps.size=21:=hg.size.trans (by simpa using hlen);have hd1:get (st.map dropS) 1 = .box [.d .str s]:=by rw [hm,hs1];rfl
 have hd4:get (st.map dropS) 4 = .box [dropC x0,dropC x1]:=by rw [hm,hs4];rfl
 have k1:=hg.slot 1;rw [hd1] at k1;obtain ⟨b1,T1,cells1,t1,h1,z1,_,k1⟩:=k1;have k4:=hg.slot 4;rw [hd4] at k4;obtain ⟨b4,T4,cells4,t4,h4,z4,_,_⟩:=k4;obtain ⟨c0,c1,rfl⟩:=two_cells z4;have hb1:b1<w.heap.size:=(Array.getElem?_eq_some_iff.1 h1).1
 have hb4:b4<w.heap.size:=(Array.getElem?_eq_some_iff.1 h4).1;have hcell1:w.cell? ⟨b1,0,none⟩=some (.string ⟨⟨s⟩⟩):=by
  have hlt:0<cells1.size:=by rw [z1];simp
  have h0:=k1 0 _ cells1[0] rfl (Array.getElem?_eq_getElem hlt);have h0':[cells1[0]]=[Value.string ⟨⟨s⟩⟩]:=h0;refine cell_at h1 ?_;rw [Array.getElem?_eq_getElem hlt]
  simpa using h0'
 have hB1:Below w.heap.size w (w.alloc (.cells #[.int .i64 0] 28)):=(Below.refl _ _).alloc (Nat.le_refl _) _;have hsz1:(w.alloc (.cells #[.int .i64 0] 28)).heap.size=w.heap.size+1:=by simp
 have hcell1':=cell_alloc hcell1 (.cells #[.int .i64 0] 28);have G1:=hg.alloc (.cells #[.int .i64 0] 28) (fun _=>True);have hI1:Inv.I Tryz.prog (w.alloc (.cells #[.int .i64 0] 28)):=hI _ (hfr.alloc hg.room _);have hc90:=c90 (s,()) _ (w.alloc (.cells #[.int .i64 0] 28)) #[.string ⟨⟨s⟩⟩] hI1 ⟨_,[],rfl,⟨[_],rfl,rfl⟩,rfl⟩ G1.lt
 have hent:enters Tryz.prog 75=true:=by kernel_rfl
 have hb10:∀ st':St,(∀ j,j≠4->get st' j=get (st.map dropS) j)->isBox (get st' 10)=false/\isBox (get st' 11)=false/\isBox (get st' 5)=false:=fun st' hst' =>
  ⟨by rw [hst' 10 (by omega),hm];exact isBox_dropS n10,by rw [hst' 11 (by omega),hm];exact isBox_dropS n11,by rw [hst' 5 (by omega),hm];exact isBox_dropS n5⟩
 have hsp:sp90.f (s,())=f90 (s,()):=rfl;rw [hsp] at hc90;unfold runRT at h;cases hx:f90 (s,()) with
 | fail=>rw [hx] at h;exact absurd h.symm hf
 | ret r =>
  rw [hx] at h hc90;dsimp only at h hc90;have hb':=hb10 ((st.map dropS).set 4 (.box [.d (.int .i64) r.1,.d (.list CPYT) r.2.1])) fun j hj=>get_setne hj
  refine tail4 hsz (0:Int) (F:=F) (M0:=M0) (w0:=w0) (st:=(st.map dropS).set 4 (.box [.d (.int .i64) r.1,.d (.list CPYT) r.2.1])) ?_ hb'.1 hb'.2.1 hb'.2.2 fun a w hc=>hk _ a w hc h
  rw [t1,t4];have hc2:Calls Tryz.prog 76 #[.string ⟨⟨s⟩⟩] (w.alloc (.cells #[.int .i64 0] 28)) fun e w'=>∃ v0 v1,e = .returned (.agg #[v0,v1]) /\
   (Below (w.heap.size+1) (w.alloc (.cells #[.int .i64 0] 28)) w'/\(∃ a c,v1 = .slice a r.2.1.length c)/\v0 = .int .i64 r.1/\∃ M2:Mut,(∀ b o,(M b o\/(b=w.heap.size/\True))->M2 b o)/\(∀ b o,M2 b o->(M b o\/(b=w.heap.size/\True))\/(w.heap.size+1<=b/\b<w'.heap.size))/\RepC M2 w' (.list CPYT) [v1] r.2.1):=by
   refine hc90.mono ?_;rintro e w' ⟨v,rfl,hbel,M2,m1,m2,⟨cs,e1,d1,d2,rfl,q1,d3,d4,rfl,⟨ad,cap,rfl,l2,l3⟩,q3⟩,_⟩;have q1':d1=[.int .i64 r.1]:=q1;have q3':d4=[]:=q3;subst q1' q3';refine ⟨_,_,congrArg Ending.returned e1,by rw [<- hsz1];exact hbel,⟨_,_,rfl⟩,rfl,M2,m1,fun b o h=>?_,ad,cap,rfl,l2,l3⟩
   have:=m2 b o h;rw [hsz1] at this;exact this
  have hr1:=read1_ret (b4:=b4) hcell1' (fun v0 v1 w' hR=>by
   refine ⟨⟨c0,c1,T4,?_⟩,?_⟩
   . rw [hR.1.block b4 (by omega),hB1.block b4 hb4];exact h4
   . obtain ⟨_,⟨ad,cc,hv1⟩,hv0,_⟩:=hR;intro v hv;rcases List.mem_cons.1 hv with rfl|hv
     . rw [hv0];rfl
     rcases List.mem_cons.1 hv with rfl|hv
     . rw [hv1];rfl
     . cases hv) hc2
  rw [two_args (.pointer (some ⟨b1,0,none⟩)) (.pointer (some ⟨b4,0,none⟩))] at hr1;refine (attempt_calls (v:=.func (.func 75) #[] #[.pointer (some ⟨b1,0,none⟩),.pointer (some ⟨b4,0,none⟩)]) (g:=75) (fs := #[]) (pc := #[.pointer (some ⟨b1,0,none⟩),.pointer (some ⟨b4,0,none⟩)]) rfl hent hr1 ?_).mono ?_
  . rintro e W ⟨⟨u,rfl⟩,v0,v1,W2,hR,rfl⟩;refine ⟨?_,.inl ⟨u,rfl⟩⟩;rw [setRow_other W2 b4 _ _ (by omega),hR.1.block _ (by omega)];exact heap_alloc_new w _
  . rintro e w' ⟨e0,W,⟨⟨u,rfl⟩,v0,v1,W2,⟨hbel,_,hv0,M2,m1,m2,hrep⟩,rfl⟩,hfrA,hend⟩;have he:e = .returned (.int .i64 0):=by
     rcases hend with ⟨_,rfl⟩|⟨c,h,_⟩|⟨c,h,_⟩
     . rfl
     . cases h
     . cases h
    have hbW:Below w.heap.size w W2:=hB1.trans ⟨hbel.os,hbel.tape,hbel.output,hbel.size,fun k hk=>hbel.block k (by omega)⟩;have hszW:w.heap.size<W2.heap.size:=by have:=hbel.size;omega
    rw [setRow_size] at hfrA;refine ⟨he,?_,M2,good_ret hg hd4 rfl t4 h4 hbW hszW (fun b o h=>m1 b o (h.imp id fun h=>⟨h,trivial⟩)) (fun b o h=>(m2 b o h).imp (fun h=>h.imp id And.left) fun h=>⟨by omega,h.2⟩) ⟨_,_,(hbel.block _ (by omega)).trans (heap_alloc_new w _)⟩ hrep hv0 hfrA⟩
    have hnF:¬ F b4:=hg.new 4 none b4 ⟨by rw [hd4];rfl,by rw [t4];rfl⟩;refine hfr.trans ⟨by rw [hfrA.os];exact hbW.os,by rw [hfrA.tape];exact hbW.tape,by rw [hfrA.output];exact hbW.output,by have:=hfrA.size;rw [setRow_size] at this;omega,fun k hk=>?_⟩
    have hkl:=hg.room k hk;rw [hfrA.block k ⟨by omega,by omega⟩,setRow_other W2 b4 k _ (fun e=>hnF (e ▸ hk)),hbW.block k hkl]
 | pan p =>
  rw [hx] at h hc90;dsimp only at h hc90;unfold runRT at h;cases he:errOut p with
  | fail=>rw [he] at h;exact absurd h.symm hf
  | pan q=>exact absurd he (errOut_pan p q)
  | ret e =>
  rw [he] at h;have he:=errOut_ret he;obtain ⟨T,cs,rfl,q1,q2,q3⟩:=errOf_some he;have hb':=hb10 (st.map dropS) fun j _=>rfl
  refine tail4 hsz e (F:=F) (M0:=M0) (w0:=w0) (st:=st.map dropS) ?_ hb'.1 hb'.2.1 hb'.2.2 fun a w hc=>hk _ a w hc h
  rw [t1,t4];have hc2:Calls Tryz.prog 76 #[.string ⟨⟨s⟩⟩] (w.alloc (.cells #[.int .i64 0] 28)) fun e w'=>∃ c,e = .panicked c/\((∃ c0:Value,c0.oneCell'=true/\c=[{ v:=.iface T (.agg #[c0]),recovered:=false }])/\Below (w.heap.size+1) (w.alloc (.cells #[.int .i64 0] 28)) w'):=by
   refine hc90.mono ?_;rintro e w' ⟨⟨q,hq,rfl⟩,hbel⟩;obtain ⟨cs',rfl,h6,h7⟩:=hq.agg q2;obtain ⟨c,rfl⟩:=arr_one (h6.trans q1);exact ⟨_,rfl,⟨c,by simpa using h7,rfl⟩,by rw [<- hsz1];exact hbel⟩
  have hr1:=read1_pan (b4:=b4) hcell1' hc2;rw [two_args (.pointer (some ⟨b1,0,none⟩)) (.pointer (some ⟨b4,0,none⟩))] at hr1;refine (attempt_calls (v:=.func (.func 75) #[] #[.pointer (some ⟨b1,0,none⟩),.pointer (some ⟨b4,0,none⟩)]) (g:=75) (fs := #[]) (pc := #[.pointer (some ⟨b1,0,none⟩),.pointer (some ⟨b4,0,none⟩)]) rfl hent hr1 ?_).mono ?_
  . rintro e' W ⟨c,rfl,⟨c0,hc0,rfl⟩,hbel⟩;refine ⟨?_,.inr ⟨T,c0,by rcases q3 with h|h<;>simp [h.1],hc0,rfl⟩⟩;rw [hbel.block _ (by omega)];exact heap_alloc_new w _
  . rintro e' w' ⟨e0,W,⟨c,rfl,⟨c0,hc0,rfl⟩,hbel⟩,hfrA,hend⟩;have he':e' = .returned (.int .i64 e):=by
     rcases hend with ⟨⟨u,hu⟩,_⟩|⟨c',hc',rfl⟩|⟨c',hc',rfl⟩
     . cases hu
     . cases hc';rcases q3 with ⟨_,rfl⟩|⟨h,_⟩
       . rfl
       . cases h
     . cases hc';rcases q3 with ⟨h,_⟩|⟨_,rfl⟩
       . cases h
       . rfl
    have hbW:Below w.heap.size w W:=hB1.trans ⟨hbel.os,hbel.tape,hbel.output,hbel.size,fun k hk=>hbel.block k (by omega)⟩;have hszW:w.heap.size<W.heap.size:=by have:=hbel.size;omega
    have hb2:Below w.heap.size w w':=⟨by rw [hfrA.os,hbW.os],by rw [hfrA.tape,hbW.tape],by rw [hfrA.output,hbW.output],by have:=hfrA.size;omega,fun k hk=>by rw [hfrA.block k ⟨by omega,by omega⟩,hbW.block k hk]⟩
    exact ⟨he',hfr.trans (Fr.below hb2 hg.room),M,hg.below hb2⟩
end Go.V
end
