/- Part. -/
import Derived.Test.YtmkbnifehdhbbabGreatDoorCG
import Derived.Tactics
set_option linter.all false
noncomputable section
namespace Go.V
open Go.Proofs
open Go.RowKit (Below)
def kh:Array Oper:=match ip 0 (av Tryz.f75) with|some o=>o|none => #[]
theorem qo:kh.toList.map a_=[
 (some 2,.load 9 (.tmp 0),none),
 (some 3,.call { callee:=.value (.func 76),args := #[.tmp 2],argTypes := #[9] },none),
 (none,.store 24 (.tmp 1) (.tmp 3),none)]:=by kernel_rfl
theorem Ic:kh.size=3:=by kernel_rfl
theorem D2:Tryz.f75.body=some (.region 0 kh false):=by kernel_rfl
theorem qp {i:Nat} {x:Option Tmp×Op×Option (Nat×Bool)} (hx:(kh.toList.map a_)[i]? = some x):∃ o,kh[i]? = some o/\o.dst=x.1/\o.op=x.2.1/\o.guard=x.2.2:=by
 rw [List.getElem?_map,Array.getElem?_toList] at hx;cases h:kh[i]? with
 | none=>rw [h] at hx;cases hx
 | some o=>rw [h] at hx;cases hx;exact ⟨o,rfl,rfl,rfl,rfl⟩
theorem EK {a:Act} {w:World} {o:Oper} (ho:o.op = .load 9 (.tmp 0)) {b:Nat} {s:ByteArray} (ht:tm a 0 = .pointer (some ⟨b,0,none⟩)) (hh:w.cell? ⟨b,0,none⟩=some (.string s)):(execOp a.eval o).run Tryz.prog w = .ok (.value (.string s)) w:=by
 have e1:a.eval (.tmp 0) = .pointer (some ⟨b,0,none⟩):=ht;simp only [execOp,ho,e1];simp [go_sem,hh]
theorem EI {a:Act} {w:World} {o:Oper} {v:Value} (ho:o.op = .call { callee:=.value (.func 76),args := #[.tmp 2],argTypes := #[9] }) (h1:tm a 2=v):(execOp a.eval o).run Tryz.prog w = .ok (.enter 76 #[v]) w:=by
 have e1:a.eval (.tmp 2)=v:=h1;have e4:a.eval (.func 76) = .func (.func 76) #[] #[]:=rfl;have e3:=dK (P:=Tryz.prog) (g:=76) (by kernel_rfl) #[v] w;simp [execOp,ho,resolve,e1,e4,Deferred.ofValue,invoke,e3]
theorem Pw {a:Act} {w:World} {o:Oper} (ho:o.op = .store 24 (.tmp 1) (.tmp 3)) {b T:Nat} {c0 c1 v0 v1:Value} (h1:tm a 1 = .pointer (some ⟨b,0,none⟩)) (h3:tm a 3 = .agg #[v0,v1]) (hh:w.heap[b]? = some (.cells #[c0,c1] T (0,0)))
 (ho1:∀ v∈[v0,v1],v.oneCell'=true):(execOp a.eval o).run Tryz.prog w = .ok .skip (w.setRow b #[v0,v1]):=by
 have e1:a.eval (.tmp 1) = .pointer (some ⟨b,0,none⟩):=h1;have e3:a.eval (.tmp 3) = .agg #[v0,v1]:=h3;have hrun:=ki (P:=Tryz.prog) (n:=9) (T:=24) (t:=gI) (by kernel_rfl) (o:=0) (v:=.agg #[v0,v1]) rfl hh (by show 0+2<=2;omega) ho1;simp only [execOp,ho,e1,e3,Instr.storeAt,Instr.sureAddr,Sem.run_bind,Sem.run_pure,Result.andThen_ok];rw [hrun];rfl
theorem UP {w:World} {b1 b4:Nat} {s:List UInt8} (h1:w.cell? ⟨b1,0,none⟩=some (.string ⟨⟨s⟩⟩)) {R:Value->Value->World->Prop}
 (h4:∀ v0 v1 w',R v0 v1 w'->(∃ c0 c1 T4,w'.heap[b4]? = some (.cells #[c0,c1] T4 (0,0)))/\∀ v∈[v0,v1],v.oneCell'=true)
 (h:Calls Tryz.prog 76 #[.string ⟨⟨s⟩⟩] w fun e w'=>∃ v0 v1,e = .returned (.agg #[v0,v1])/\R v0 v1 w') :
 Calls Tryz.prog 75 #[.pointer (some ⟨b1,0,none⟩),.pointer (some ⟨b4,0,none⟩)] w fun e w'=>(∃ u,e = .returned u)/\∃ v0 v1 w2,R v0 v1 w2/\w'=w2.setRow b4 #[v0,v1]:=by
 refine (callsIn_wide (n:=0)).1 (callsIn_of_wp Tryz.func75 D2 trivial (wpIn_region ?_));rw [Ic];obtain ⟨o0,i0,d0,p0,q0⟩:=qp (i:=0) (x:=(some 2,.load 9 (.tmp 0),none)) (by rw [qo];rfl);obtain ⟨o1,i1,d1,p1,q1⟩:=qp (i:=1) (x:=(some 3,.call { callee:=.value (.func 76),args := #[.tmp 2],argTypes := #[9] },none)) (by rw [qo];rfl);obtain ⟨o2,i2,d2,p2,q2⟩:=qp (i:=2) (x:=(none,.store 24 (.tmp 1) (.tmp 3),none)) (by rw [qo];rfl);show wpOpsIn (aA none) 0 Tryz.prog kh _ [0,1,2] _ w;rw [Tryz.ntmps75,wpOpsIn_cons];refine aV i0 (aC q0) (fun c h=>by rw [p0] at h;cases h) (EK p0 rfl h1) ?_;rw [d0,wpOpsIn_cons];refine gz i1 (aC q1) (fun c h=>by rw [p1] at h;cases h) (EI p1 rfl) (h.mono ?_);rintro e w2 ⟨v0,v1,rfl,hR⟩;obtain ⟨⟨c0,c1,T4,h4'⟩,h1'⟩:=h4 _ _ _ hR;refine ⟨_,rfl,?_⟩;rw [d1,wpOpsIn_cons];refine iG i2 (aC q2) (fun c h=>by rw [p2] at h;cases h) (Pw p2 rfl rfl h4' h1') ?_;rw [d2];refine bodyPost_end (results_none rfl _ _ _) rfl ?_;exact ⟨⟨_,rfl⟩,v0,v1,w2,hR,rfl⟩
theorem UO {w:World} {b1 b4:Nat} {s:List UInt8} (h1:w.cell? ⟨b1,0,none⟩=some (.string ⟨⟨s⟩⟩)) {R:List PanicEntry->World->Prop}
 (h:Calls Tryz.prog 76 #[.string ⟨⟨s⟩⟩] w fun e w'=>∃ c,e = .panicked c/\R c w') :
 Calls Tryz.prog 75 #[.pointer (some ⟨b1,0,none⟩),.pointer (some ⟨b4,0,none⟩)] w fun e w'=>∃ c,e = .panicked c/\R c w':=by
 refine (callsIn_wide (n:=0)).1 (callsIn_of_wp Tryz.func75 D2 trivial (wpIn_region ?_));rw [Ic];obtain ⟨o0,i0,d0,p0,q0⟩:=qp (i:=0) (x:=(some 2,.load 9 (.tmp 0),none)) (by rw [qo];rfl);obtain ⟨o1,i1,d1,p1,q1⟩:=qp (i:=1) (x:=(some 3,.call { callee:=.value (.func 76),args := #[.tmp 2],argTypes := #[9] },none)) (by rw [qo];rfl);show wpOpsIn (aA none) 0 Tryz.prog kh _ [0,1,2] _ w;rw [Tryz.ntmps75,wpOpsIn_cons];refine aV i0 (aC q0) (fun c h=>by rw [p0] at h;cases h) (EK p0 rfl h1) ?_;rw [d0,wpOpsIn_cons];refine Uc i1 (aC q1) (fun c h=>by rw [p1] at h;cases h) (EI p1 rfl) (h.mono ?_);rintro e w2 ⟨c,rfl,hR⟩;exact ⟨c,rfl,rfl,c,rfl,hR⟩
def rC:List Spec:=[Ip,AY,Iq,Ir]
def mX:List (Nat×List Nat):=[(9,[0,2,6,44,45,46])]
def L90_0 (N:Nat) (n_L90_0:Nat) (x:gU) (r_1:(List (List UInt8))) (t2_13:Int) (t2_14:(List (Int×aE))) (t_15:Int) (t_16:(List (Int×aE))) (t46_17:Int):Out (Int×qA) :=
 bS Tryz.prog (ah rC) mX N Tryz.f76 false false kv [.at 1,.at 1,.at 1,.at 1,.at 1,.at 1,.at 1,.at 1,.at 0,.at 1,.at 0] n_L90_0 [.d .str x.1,U,.box [.d (.int .i64) t2_13,.own mf t2_14 false],U,U,U,.box [.d (.int .i64) t_15,.own mf t_16 false],U,U,U,U,U,U,U,U,U,U,U,U,U,U,U,U,U,U,U,U,U,U,U,U,U,U,U,U,U,U,U,U,U,U,U,U,U,.d (.list .str) (cut r_1 (1:Int) (IntKind.i64.wrap ((ae r_1) - (2:Int)))),.d (.int .i64) (ae (cut r_1 (1:Int) (IntKind.i64.wrap ((ae r_1) - (2:Int))))),.d (.int .i64) t46_17,U,U,U,U,U,U,U,U,U,U,U,U,U,U,U,U,U,U,U,U,U,U,U,U,U,U,U,U,U,U,U,U,U,U,U,U,U,U,U,U]
def Df (N:Nat) (x:gU):Out (Int×qA):=match f112 (x.1,(([10]:List UInt8),())) with | .ret r_1=>(match f113 ((decide ((ae r_1) >= 3)),(x.1,())) with | .ret r_3=>bif (ax 0 r_1.length) then match f112 ((List.getD r_1 (0:Int).toNat ([]:List UInt8)),(([32]:List UInt8),())) with | .ret r_5=>(match f113 (((ae r_5)==2),(x.1,())) with | .ret r_7=>bif (ax 1 r_5.length) then match f114 ((List.getD r_5 (1:Int).toNat ([]:List UInt8)),(false,())) with | .ret r_9=>(match f113 (((ae r_9)==1),(x.1,())) with | .ret r_11=>bif (ax 0 r_9.length) then bif (jN 1 (IntKind.i64.wrap ((ae r_1) - 2)) (ae r_1)) then L90_0 N N x r_1 0 ([]:List (Int×aE)) (List.getD r_9 (0:Int).toNat 0) ([]:List (Int×aE)) 0 else .fail else .fail | .pan p=>.pan p | .fail=>.fail) | .pan p=>.pan p | .fail=>.fail else .fail | .pan p=>.pan p | .fail=>.fail) | .pan p=>.pan p | .fail=>.fail else .fail | .pan p=>.pan p | .fail=>.fail) | .pan p=>.pan p | .fail=>.fail
theorem OH (N:Nat) (x:gU):vp Tryz.prog (ah rC) mX N (fun {ρ} k st=>vZ (ah rC) mX k st) [1,1,1,1,1,1,1,0] Tryz.f76 false false (.prod .str .unit) kv x=Df N x:=by kernel_rfl
def f90 (x:gU):Out (Int×qA):=Df fuel x
def IK:Spec:=⟨76,.call,(.prod .str .unit),kv,false,false,f90⟩
theorem Wv:ic [1,1,1,1,1,1,1,0] (av Tryz.f76)=some (.region 7 jv false):=by kernel_rfl
theorem MK:am Tryz.prog IK:=Nl (l:=rC) (arg:=(.prod .str .unit)) (res:=kv) (multi:=false) (own:=false) (F:=f90) mixed (all_cons D6 (all_cons xS (all_cons D7 (all_cons D8 aO)))) (c:=av Tryz.f76) (r:=.region 7 jv false) Tryz.func76 (by kernel_rfl) (E:=(fun {ρ} k st=>vZ (ah rC) mX k st)) (path:=[1,1,1,1,1,1,1,0]) Wv (OI (eK (all_cons D6 (all_cons xS (all_cons D7 (all_cons D8 aO))))) mX) mX fun x _=>⟨fuel,OH fuel x⟩
open Go.RowKit (Below)
def lQ:Array Oper:=match ip 4 (av Tryz.f39) with|some o=>o|none => #[]
theorem zw:lQ.toList.map a_=[
 (some 10,.makeFunc (.func 75) #[] #[.tmp 1,.tmp 4],none),
 (some 11,.call { callee:=.value (.func 74),args := #[.tmp 10],argTypes := #[1] },none),
 (some 5,.assign (.tmp 11),none)]:=by kernel_rfl
theorem U8:lQ.size=3:=by kernel_rfl
def mL (p:Value):Option Int :=
 match p with
 | .iface T (.agg cs)=>bif cs.size==1 && cs.toList.all (·.oneCell') then (bif T==144 then some 7 else bif T==146 then some 4 else none) else none
 | _=>none
theorem EC {p:Value} {e:Int} (h:mL p=some e):∃ T cs,p = .iface T (.agg cs)/\cs.size=1/\cs.toList.all (·.oneCell')=true/\((T=144/\e=7)\/(T=146/\e=4)):=by
 unfold mL at h;split at h
 . rename_i T cs;cases hc:(cs.size==1 && cs.toList.all (·.oneCell')) with
   | false=>rw [hc] at h;cases h
   | true =>
    rw [hc] at h;simp only [Bool.and_eq_true,beq_iff_eq] at hc;refine ⟨T,cs,rfl,hc.1,hc.2,?_⟩;cases h1:T==144 with
    | true=>rw [h1] at h;cases h;exact .inl ⟨by simpa using h1,rfl⟩
    | false =>
     rw [h1] at h;cases h2:T==146 with
     | true=>rw [h2] at h;cases h;exact .inr ⟨by simpa using h2,rfl⟩
     | false=>rw [h2] at h;cases h
 . cases h
def kL (p:Value):Out Int:=match mL p with|some e=>.ret e|none=>.fail
theorem O3 {p:Value} {e:Int} (h:kL p = .ret e):mL p=some e:=by
 unfold kL at h;split at h
 . rename_i h2;cases h;exact h2
 . cases h
theorem O2 (p q:Value):kL p ≠ .pan q:=by
 unfold kL;split<;>simp
def M_ (st:St):St:=((st.map aR).set 10 .und).set 11 .und
def g4 (st:St):RT:=match get st 1 with
 | .box [.d .str s]=>(match get st 4 with
  | .box [_,_]=>(match au (get st 10) || au (get st 11) || au (get st 5) || !(st.length==21) with
   | true=>.fail
   | false=>.onOut gI (f90 (s,())) (fun r=>.ret (((((st.map aR).set 4 (.box [.d (.int .i64) r.1,.d (.list iV) r.2.1])).set 10 .und).set 11 .und).set 5 (.d (.int .i64) (0:Int))))
    (fun p=>.onOut (.int .i64) (kL p) (fun e=>.ret ((M_ st).set 5 (.d (.int .i64) e))) (fun _=>.fail)))
  | _=>.fail)
 | _=>.fail
theorem Pu {a:Act} {w:World} {o:Oper} (ho:o.op = .makeFunc (.func 75) #[] #[.tmp 1,.tmp 4]):(execOp a.eval o).run Tryz.prog w = .ok (.value (.func (.func 75) #[] #[tm a 1,tm a 4])) w:=by
 simp [execOp,ho,Instr.makeFunc,Act.eval]
theorem Pj {a:Act} {w:World} {o:Oper} {v:Value} (ho:o.op = .call { callee:=.value (.func 74),args := #[.tmp 10],argTypes := #[1] }) (h1:tm a 10=v):(execOp a.eval o).run Tryz.prog w = .ok (.enter 74 #[v]) w:=by
 have e1:a.eval (.tmp 10)=v:=h1;have e4:a.eval (.func 74) = .func (.func 74) #[] #[]:=rfl;have e3:=dK (P:=Tryz.prog) (g:=74) (by kernel_rfl) #[v] w;simp [execOp,ho,resolve,e1,e4,Deferred.ofValue,invoke,e3]
theorem kH {w:World} {p:Addr} {v:Value} (h:w.cell? p=some v) (o:Obj):(w.alloc o).cell? p=some v:=Eh h ((Below.refl _ _).alloc (Nat.le_refl _) o)
theorem sF {cs:Array Value} (h:cs.size=1):∃ c,cs = #[c]:=by
 match cs,h with
 | ⟨[c]⟩,_=>exact ⟨c,rfl⟩
theorem Jy {F:Nat->Prop} {M0:Base} {w0:World} {n:Nat} {Q:Exit->Act->World->Prop} {st:St} {a:Act} {w:World} (hsz:a.tmps.size=21) (e:Int)
 (hcall:Calls Tryz.prog 74 #[.func (.func 75) #[] #[tm a 1,tm a 4]] w fun x w'=>x = .returned (.int .i64 e)/\Fr F w0 w'/\∃ M,Good M0 F M st a w')
 (h10:au (get st 10)=false) (h11:au (get st 11)=false) (h5:au (get st 5)=false)
 (hQ:∀ a w,aK F M0 w0 (((st.set 10 .und).set 11 .und).set 5 (.d (.int .i64) e)) a w->Q .normal a w):(Code.region 4 lQ false).wpIn (aA none) n Tryz.prog Q a w:=by
 obtain ⟨o0,i0,d0,p0,q0⟩:=aB zw (i:=0) rfl;obtain ⟨o1,i1,d1,p1,q1⟩:=aB zw (i:=1) rfl;obtain ⟨o2,i2,d2,p2,q2⟩:=aB zw (i:=2) rfl;refine wpIn_region ?_;rw [U8];show wpOpsIn (aA none) n Tryz.prog lQ Q [0,1,2] a w;rw [wpOpsIn_cons];refine aV i0 (aC q0) (fun c h=>by rw [p0] at h;cases h) (Pu p0) ?_;rw [d0,wpOpsIn_cons];refine gz i1 (aC q1) (fun c h=>by rw [p1] at h;cases h) (Pj p1 (ay (by omega))) (hcall.mono ?_);rintro x w' ⟨rfl,hfr,M,hg⟩;refine ⟨_,rfl,?_⟩;rw [d1,wpOpsIn_cons];refine aV i2 (aC q2) (fun c h=>by rw [p2] at h;cases h) (tj p2) ?_;rw [d2,ay (by rw [aG];omega)];refine hQ _ _ ⟨hfr,M,?_⟩;have g1:=z_ hg h10 (.func (.func 75) #[] #[tm a 1,tm a 4]);have g2:=z_ g1 (d:=11) (by rw [eU (by omega)];exact h11) (.int .i64 e);exact g2.fin (dst:=some 5) (s:=.d (.int .i64) e) (v:=.int .i64 e) (fun d hd=>by cases hd;rw [eU (by omega),eU (by omega)];exact h5) rfl ⟨[_],rfl,rfl⟩
theorem Rp {F:Nat->Prop} {M0:Base} {st:St} {a:Act} {w W2 w':World} {M M2:ai} (hg:Good M0 F M st a w) {i b4:Nat} {cs:List C} {c0 c1 v0 v1:Value} {T4:TypeId} {r:gI.den} (hi:get st i = .box cs) (hcs:cs.length=2)
 (hti:tm a i = .pointer (some ⟨b4,0,none⟩)) (hh:w.heap[b4]? = some (.cells #[c0,c1] T4 (0,0)))
 (hb:Below w.heap.size w W2) (hsz:w.heap.size<W2.heap.size) (hM2:∀ b o,(M b o\/b=w.heap.size)->M2 b o) (hM2':∀ b o,M2 b o->(M b o\/b=w.heap.size)\/(w.heap.size<b/\b<W2.heap.size)) (hcell:∃ cs T,W2.heap[w.heap.size]? = some (.cells cs T (0,0)))
 (hrep:af M2 W2 (.list iV) [v1] r.2.1) (hv0:v0 = .int .i64 r.1) (hfr:Fr (fun b=>b<W2.heap.size/\b≠w.heap.size) (W2.setRow b4 #[v0,v1]) w') :
 Good M0 F M2 (st.set i (.box [.d (.int .i64) r.1,.d (.list iV) r.2.1])) a w':=by
 subst hv0;have hb4:b4<w.heap.size:=(Array.getElem?_eq_some_iff.1 hh).1;have hstab:aL M w M2 W2:=fun b o u p q=>by
  have hlt:=c_ p;refine ⟨(hb.cell (p:=⟨b,o,none⟩) hlt).trans p,fun h=>?_⟩;rcases hM2' b o h with (h|h)|⟨h,_⟩
  . exact q h
  . omega
  . omega
 have G2:Good M0 F M2 st a W2:=by
  refine hg.world hstab hb.size (fun b o h=>hM2 b o (.inl (hg.up b o h))) (fun b o h=>?_) (fun b o hlt h=>?_) (bF.below hb) fun i k b ho=>⟨hb.block b (cH hg.slot ho),fun o h=>hM2 b o (.inl h)⟩
  . rcases hM2' b o h with (h|h)|⟨_,h⟩
    . exact Nat.lt_of_lt_of_le (hg.lt b o h) hb.size
    . omega
    . exact h
  . have hr:=hg.room b hlt;rcases hM2' b o h with (h|h)|⟨h,_⟩
    . exact hg.down b o hlt h
    . omega
    . omega
 have hh2:W2.heap[b4]? = some (.cells #[c0,c1] T4 (0,0)):=(hb.block b4 hb4).trans hh;have G3:=G2.setbox (cs':=[.d (.int .i64) r.1,.d (.list iV) r.2.1]) (row := #[.int .i64 r.1,v1]) hi hti hh2 rfl
  (fun k c u h1 h2=>by
   match k,h1,h2 with
   | 0,h1,h2=>cases h1;cases h2;exact rfl
   | 1,h1,h2=>cases h1;cases h2;exact hrep
   | _+2,h1,_=>cases h1)
  (fun k u ys h=>by match k,h with|0,h=>cases h|1,h=>cases h|_+2,h=>cases h)
  (fun k u ys h=>by match k,h with|0,h=>cases h|1,h=>cases h|_+2,h=>cases h)
  (fun k c v g h hc=>by match k,h with|0,h=>cases h;cases hc|1,h=>cases h;cases hc|_+2,h=>cases h)
  (fun k k' c v g c1 v' h hc=>by match k,h with|0,h=>cases h;cases hc|1,h=>cases h;cases hc|_+2,h=>cases h)
 obtain ⟨ce,Te,hce⟩:=hcell;have hne:w.heap.size≠b4:=by omega
 have hce3:(W2.setRow b4 #[.int .i64 r.1,v1]).heap[w.heap.size]? = some (.cells ce Te (0,0)):=(setRow_other W2 b4 _ _ hne).trans hce;have hsz3:(W2.setRow b4 #[.int .i64 r.1,v1]).heap.size=W2.heap.size:=by simp
 have hil:i<st.length:=by
  rcases Nat.lt_or_ge i st.length with h'|h'
  . exact h'
  . rw [b7 h'] at hi;cases hi
 have hown:∀ j k b,ap (st.set i (.box [.d (.int .i64) r.1,.d (.list iV) r.2.1])) a (W2.setRow b4 #[.int .i64 r.1,v1]) j k b->b<w.heap.size:=by
  intro j k b ho
  by_cases hj:j=i
  . subst hj;cases k with
    | none=>have:=ho.2;rw [hti] at this;cases this;exact hb4
    | some k =>
     obtain ⟨cs',x0,_,_,e1,e2,e3,_⟩:=ho;rw [bu _ _ _ _ hil,if_pos rfl] at e1;cases e1
     match k,e2 with
     | 0,e2=>cases e2;cases e3
     | 1,e2=>cases e2;cases e3
     | _+2,e2=>cases e2
  . cases k with
    | none =>
     obtain ⟨e1,e2⟩:=ho;rw [bu _ _ _ _ hil,if_neg hj] at e1;exact cH hg.slot (k:=none) (i:=j) ⟨e1,e2⟩
    | some k =>
     obtain ⟨cs',x0,cb,v,e1,e2,e3,e4,e5,e6⟩:=ho;rw [bu _ _ _ _ hil,if_neg hj] at e1;have hcb:ap st a w j none cb:=⟨by rw [e1];rfl,e4⟩
     have hcblt:=cH hg.slot hcb;have hcbne:cb≠b4:=fun e=>by
      subst e;exact hj (hg.one j none i none cb hcb ⟨by rw [hi];rfl,by rw [hti];rfl⟩).1
     have e5':w.cell? ⟨cb,k,none⟩=some v:=by
      rw [World.cell?_of_block (setRow_other W2 b4 cb _ hcbne),World.cell?_of_block (hb.block cb hcblt)] at e5;exact e5
     exact cH hg.slot (i:=j) (k:=some k) ⟨cs',x0,cb,v,e1,e2,e3,e4,e5',e6⟩
 refine G3.world ?_ (by have:=hfr.size;omega) G3.up (fun b o h=>?_) G3.down ?_ fun j k b ho=>?_
 . intro b o u p q;have hlt:=c_ p;rw [hsz3] at hlt;refine ⟨(World.cell?_of_block (hfr.block b ⟨hlt,fun e=>?_⟩)).trans p,q⟩;exact q (hM2 b o (.inr e))
 . have:=G2.lt b o h;have:=hfr.size;omega
 . intro D c e;have hlt:=(Array.getElem?_eq_some_iff.1 e).1;rw [hsz3] at hlt;exact (hfr.block D ⟨hlt,fun e'=>by rw [e',hce3] at e;cases e⟩).trans e
 . have:=hown j k b ho;exact ⟨hfr.block b ⟨by omega,by omega⟩,fun _ h=>h⟩
theorem JK (x y:Value):(#[x,y]:Array Value) = #[] ++ #[x,y]:=by simp
theorem UR:xm Tryz.prog (.region 4 lQ false) g4:=by
 intro ρ F M0 w0 n hI hpl k fin Q hf hk st a w hc h;unfold g4 at h;split at h;rotate_left
 . exact absurd h.symm hf
 rename_i s hs1;split at h;rotate_left
 . exact absurd h.symm hf
 rename_i x0 x1 hs4;split at h
 . exact absurd h.symm hf
 rename_i hnb;simp only [Bool.or_eq_false_iff] at hnb;obtain ⟨⟨⟨n10,n11⟩,n5⟩,hlen⟩:=hnb;have hlen:st.length=21:=by simpa using hlen
 obtain ⟨hfr,M,hg⟩:=hc.drop;have hm:∀ i,get (st.map aR) i=aR (get st i):=fun i=>dp st i
 have hsz:a.tmps.size=21:=hg.size.trans (by simpa using hlen);have hd1:get (st.map aR) 1 = .box [.d .str s]:=by rw [hm,hs1];rfl
 have hd4:get (st.map aR) 4 = .box [jO x0,jO x1]:=by rw [hm,hs4];rfl
 have k1:=hg.slot 1;rw [hd1] at k1;obtain ⟨b1,T1,cells1,t1,h1,z1,_,k1⟩:=k1;have k4:=hg.slot 4;rw [hd4] at k4;obtain ⟨b4,T4,cells4,t4,h4,z4,_,_⟩:=k4;obtain ⟨c0,c1,rfl⟩:=vg z4;have hb1:b1<w.heap.size:=(Array.getElem?_eq_some_iff.1 h1).1;have hb4:b4<w.heap.size:=(Array.getElem?_eq_some_iff.1 h4).1;have hcell1:w.cell? ⟨b1,0,none⟩=some (.string ⟨⟨s⟩⟩):=by
  have hlt:0<cells1.size:=by rw [z1];simp
  have h0:=k1 0 _ cells1[0] rfl (Array.getElem?_eq_getElem hlt);have h0':[cells1[0]]=[Value.string ⟨⟨s⟩⟩]:=h0;refine cj h1 ?_;rw [Array.getElem?_eq_getElem hlt]
  simpa using h0'
 have hB1:Below w.heap.size w (w.alloc (.cells #[.int .i64 0] 28)):=(Below.refl _ _).alloc (Nat.le_refl _) _;have hsz1:(w.alloc (.cells #[.int .i64 0] 28)).heap.size=w.heap.size+1:=by simp
 have hcell1':=kH hcell1 (.cells #[.int .i64 0] 28);have G1:=hg.alloc (.cells #[.int .i64 0] 28) (fun _=>True);have hI1:Inv.I Tryz.prog (w.alloc (.cells #[.int .i64 0] 28)):=hI _ (hfr.alloc hg.room _);have hc90:=MK (s,()) _ (w.alloc (.cells #[.int .i64 0] 28)) #[.string ⟨⟨s⟩⟩] hI1 ⟨_,[],rfl,⟨[_],rfl,rfl⟩,rfl⟩ G1.lt;have hent:fG Tryz.prog 75=true:=by kernel_rfl
 have hb10:∀ st':St,(∀ j,j≠4->get st' j=get (st.map aR) j)->au (get st' 10)=false/\au (get st' 11)=false/\au (get st' 5)=false:=fun st' hst' =>
  ⟨by rw [hst' 10 (by omega),hm];exact zz n10,by rw [hst' 11 (by omega),hm];exact zz n11,by rw [hst' 5 (by omega),hm];exact zz n5⟩
 have hsp:IK.f (s,())=f90 (s,()):=rfl;rw [hsp] at hc90;unfold nW at h;cases hx:f90 (s,()) with
 | fail=>rw [hx] at h;exact absurd h.symm hf
 | ret r =>
  rw [hx] at h hc90;dsimp only at h hc90;have hb':=hb10 ((st.map aR).set 4 (.box [.d (.int .i64) r.1,.d (.list iV) r.2.1])) fun j hj=>eU hj
  refine Jy hsz (0:Int) (F:=F) (M0:=M0) (w0:=w0) (st:=(st.map aR).set 4 (.box [.d (.int .i64) r.1,.d (.list iV) r.2.1])) ?_ hb'.1 hb'.2.1 hb'.2.2 fun a w hc=>hk _ a w hc h
  rw [t1,t4];have hc2:Calls Tryz.prog 76 #[.string ⟨⟨s⟩⟩] (w.alloc (.cells #[.int .i64 0] 28)) fun e w'=>∃ v0 v1,e = .returned (.agg #[v0,v1]) /\
   (Below (w.heap.size+1) (w.alloc (.cells #[.int .i64 0] 28)) w'/\(∃ a c,v1 = .slice a r.2.1.length c)/\v0 = .int .i64 r.1/\∃ M2:ai,(∀ b o,(M b o\/(b=w.heap.size/\True))->M2 b o)/\(∀ b o,M2 b o->(M b o\/(b=w.heap.size/\True))\/(w.heap.size+1<=b/\b<w'.heap.size))/\af M2 w' (.list iV) [v1] r.2.1):=by
   refine hc90.mono ?_;rintro e w' ⟨v,rfl,hbel,M2,m1,m2,⟨cs,e1,d1,d2,rfl,q1,d3,d4,rfl,⟨ad,cap,rfl,l2,l3⟩,q3⟩,_⟩;have q1':d1=[.int .i64 r.1]:=q1;have q3':d4=[]:=q3;subst q1' q3';refine ⟨_,_,congrArg Ending.returned e1,by rw [<- hsz1];exact hbel,⟨_,_,rfl⟩,rfl,M2,m1,fun b o h=>?_,ad,cap,rfl,l2,l3⟩;have:=m2 b o h;rw [hsz1] at this;exact this
  have hr1:=UP (b4:=b4) hcell1' (fun v0 v1 w' hR=>by
   refine ⟨⟨c0,c1,T4,?_⟩,?_⟩
   . rw [hR.1.block b4 (by omega),hB1.block b4 hb4];exact h4
   . obtain ⟨_,⟨ad,cc,hv1⟩,hv0,_⟩:=hR;intro v hv;rcases List.mem_cons.1 hv with rfl|hv
     . rw [hv0];rfl
     rcases List.mem_cons.1 hv with rfl|hv
     . rw [hv1];rfl
     . cases hv) hc2
  rw [JK (.pointer (some ⟨b1,0,none⟩)) (.pointer (some ⟨b4,0,none⟩))] at hr1;refine (sG (v:=.func (.func 75) #[] #[.pointer (some ⟨b1,0,none⟩),.pointer (some ⟨b4,0,none⟩)]) (g:=75) (fs := #[]) (pc := #[.pointer (some ⟨b1,0,none⟩),.pointer (some ⟨b4,0,none⟩)]) rfl hent hr1 ?_).mono ?_
  . rintro e W ⟨⟨u,rfl⟩,v0,v1,W2,hR,rfl⟩;refine ⟨?_,.inl ⟨u,rfl⟩⟩;rw [setRow_other W2 b4 _ _ (by omega),hR.1.block _ (by omega)];exact heap_alloc_new w _
  . rintro e w' ⟨e0,W,⟨⟨u,rfl⟩,v0,v1,W2,⟨hbel,_,hv0,M2,m1,m2,hrep⟩,rfl⟩,hfrA,hend⟩;have he:e = .returned (.int .i64 0):=by
     rcases hend with ⟨_,rfl⟩|⟨c,h,_⟩|⟨c,h,_⟩
     . rfl
     . cases h
     . cases h
    have hbW:Below w.heap.size w W2:=hB1.trans ⟨hbel.os,hbel.tape,hbel.output,hbel.size,fun k hk=>hbel.block k (by omega)⟩;have hszW:w.heap.size<W2.heap.size:=by have:=hbel.size;omega
    rw [setRow_size] at hfrA;refine ⟨he,?_,M2,Rp hg hd4 rfl t4 h4 hbW hszW (fun b o h=>m1 b o (h.imp id fun h=>⟨h,trivial⟩)) (fun b o h=>(m2 b o h).imp (fun h=>h.imp id And.left) fun h=>⟨by omega,h.2⟩) ⟨_,_,(hbel.block _ (by omega)).trans (heap_alloc_new w _)⟩ hrep hv0 hfrA⟩;have hnF:¬ F b4:=hg.new 4 none b4 ⟨by rw [hd4];rfl,by rw [t4];rfl⟩;refine hfr.trans ⟨by rw [hfrA.os];exact hbW.os,by rw [hfrA.tape];exact hbW.tape,by rw [hfrA.output];exact hbW.output,by have:=hfrA.size;rw [setRow_size] at this;omega,fun k hk=>?_⟩;have hkl:=hg.room k hk;rw [hfrA.block k ⟨by omega,by omega⟩,setRow_other W2 b4 k _ (fun e=>hnF (e ▸ hk)),hbW.block k hkl]
 | pan p =>
  rw [hx] at h hc90;dsimp only at h hc90;unfold nW at h;cases he:kL p with
  | fail=>rw [he] at h;exact absurd h.symm hf
  | pan q=>exact absurd he (O2 p q)
  | ret e =>
  rw [he] at h;have he:=O3 he;obtain ⟨T,cs,rfl,q1,q2,q3⟩:=EC he;have hb':=hb10 (st.map aR) fun j _=>rfl
  refine Jy hsz e (F:=F) (M0:=M0) (w0:=w0) (st:=st.map aR) ?_ hb'.1 hb'.2.1 hb'.2.2 fun a w hc=>hk _ a w hc h
  rw [t1,t4];have hc2:Calls Tryz.prog 76 #[.string ⟨⟨s⟩⟩] (w.alloc (.cells #[.int .i64 0] 28)) fun e w'=>∃ c,e = .panicked c/\((∃ c0:Value,c0.oneCell'=true/\c=[{ v:=.iface T (.agg #[c0]),recovered:=false }])/\Below (w.heap.size+1) (w.alloc (.cells #[.int .i64 0] 28)) w'):=by
   refine hc90.mono ?_;rintro e w' ⟨⟨q,hq,rfl⟩,hbel⟩;obtain ⟨cs',rfl,h6,h7⟩:=hq.agg q2;obtain ⟨c,rfl⟩:=sF (h6.trans q1);exact ⟨_,rfl,⟨c,by simpa using h7,rfl⟩,by rw [<- hsz1];exact hbel⟩
  have hr1:=UO (b4:=b4) hcell1' hc2;rw [JK (.pointer (some ⟨b1,0,none⟩)) (.pointer (some ⟨b4,0,none⟩))] at hr1;refine (sG (v:=.func (.func 75) #[] #[.pointer (some ⟨b1,0,none⟩),.pointer (some ⟨b4,0,none⟩)]) (g:=75) (fs := #[]) (pc := #[.pointer (some ⟨b1,0,none⟩),.pointer (some ⟨b4,0,none⟩)]) rfl hent hr1 ?_).mono ?_
  . rintro e' W ⟨c,rfl,⟨c0,hc0,rfl⟩,hbel⟩;refine ⟨?_,.inr ⟨T,c0,by rcases q3 with h|h<;>simp [h.1],hc0,rfl⟩⟩;rw [hbel.block _ (by omega)];exact heap_alloc_new w _
  . rintro e' w' ⟨e0,W,⟨c,rfl,⟨c0,hc0,rfl⟩,hbel⟩,hfrA,hend⟩;have he':e' = .returned (.int .i64 e):=by
     rcases hend with ⟨⟨u,hu⟩,_⟩|⟨c',hc',rfl⟩|⟨c',hc',rfl⟩
     . cases hu
     . cases hc';rcases q3 with ⟨_,rfl⟩|⟨h,_⟩
       . rfl
       . cases h
     . cases hc';rcases q3 with ⟨h,_⟩|⟨_,rfl⟩
       . cases h
       . rfl
    have hbW:Below w.heap.size w W:=hB1.trans ⟨hbel.os,hbel.tape,hbel.output,hbel.size,fun k hk=>hbel.block k (by omega)⟩;have hszW:w.heap.size<W.heap.size:=by have:=hbel.size;omega
    have hb2:Below w.heap.size w w':=⟨by rw [hfrA.os,hbW.os],by rw [hfrA.tape,hbW.tape],by rw [hfrA.output,hbW.output],by have:=hfrA.size;omega,fun k hk=>by rw [hfrA.block k ⟨by omega,by omega⟩,hbW.block k hk]⟩
    exact ⟨he',hfr.trans (Fr.below hb2 hg.room),M,hg.below hb2⟩
end Go.V
end
