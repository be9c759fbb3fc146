/- A part of the proof of TopNinesSaid: no condition beyond what each theorem says. -/
import Derived.Test.YtkohflnifdpahaaN17
import Derived.Test.YtkohflnifdpahaaN08
import Derived.Test.YtkohflnifdpahaaN11
set_option linter.all false
namespace Go.V
open Go.Proofs
noncomputable def specs9n:List Spec:=[]
def hints9n:List (Nat×List Nat):=[]
noncomputable def F9n (N:Nat) (x:(Int×(Int×(Int×Unit)))):Out Bool :=
  match (decide (x.1 >= x.2.1)) with
  | true =>
    .ret (decide (x.1<=x.2.2.1))
  | false =>
    .ret false
theorem e9n (N:Nat) (x:(Int×(Int×(Int×Unit)))):vfn Try.prog (phi specs9n) hints9n N Try.f9 false false (.prod (.int .i64) (.prod (.int .i64) (.prod (.int .i64) .unit))) .bool x=F9n N x:=by
  kernel_rfl
noncomputable def f9n (x:(Int×(Int×(Int×Unit)))):Out Bool:=F9n fuel x
noncomputable def sp9n:Spec:=⟨9,.call,(.prod (.int .i64) (.prod (.int .i64) (.prod (.int .i64) .unit))),.bool,false,false,f9n⟩
theorem c9n:Contract Try.prog sp9n:=contract_at (l:=specs9n) (arg:=(.prod (.int .i64) (.prod (.int .i64) (.prod (.int .i64) .unit)))) (res:=.bool) (multi:=false) (own:=false) (F:=f9n) mixed all_nil Try.func9 rfl hints9n fun x _=>⟨fuel,e9n fuel x⟩
noncomputable def specs8n:List Spec:=[sp9n]
def hints8n:List (Nat×List Nat):=[]
noncomputable def F8n (N:Nat) (x:(Int×Unit)):Out Bool :=
  match f9n (x.1,((-999:Int),((999:Int),()))) with
  | .ret r_1 =>
    .ret r_1
  | .pan p_2 =>
    .pan p_2
  | .fail=>.fail
theorem e8n (N:Nat) (x:(Int×Unit)):vfn Try.prog (phi specs8n) hints8n N Try.f8 false false (.prod (.int .i64) .unit) .bool x=F8n N x:=by
  kernel_rfl
noncomputable def f8n (x:(Int×Unit)):Out Bool:=F8n fuel x
noncomputable def sp8n:Spec:=⟨8,.call,(.prod (.int .i64) .unit),.bool,false,false,f8n⟩
theorem c8n:Contract Try.prog sp8n:=contract_at (l:=specs8n) (arg:=(.prod (.int .i64) .unit)) (res:=.bool) (multi:=false) (own:=false) (F:=f8n) mixed (all_cons c9n all_nil) Try.func8 rfl hints8n fun x _=>⟨fuel,e8n fuel x⟩
noncomputable def specs4n:List Spec:=[sp8n,sp9n]
def hints4n:List (Nat×List Nat):=[(2,[0,3])]
noncomputable def L4n_0 (N:Nat) (n_L4n_0:Nat) (x:((List Int)×Unit)) (i_1:Int):Out Bool :=
  vloop Try.prog (phi specs4n) hints4n N Try.f4 false false .bool [.at 1,.at 0,.at 1,.at 0] n_L4n_0 [.d (.list (.int .i64)) x.1,.und,.und,.d (.int .i64) i_1,.und,.und,.und,.und,.und,.und,.und,.und,.und,.und,.und,.und,.und,.und,.und]
theorem L4n_0_succ (N:Nat) (n_L4n_0:Nat) (x:((List Int)×Unit)) (i_1:Int):L4n_0 N  (n_L4n_0+1) x i_1 =
    (
    match (decide (i_1<(lenI x.1))) with
    | true =>
      bif (inb i_1 x.1.length) then
        match f8n ((List.getD x.1 i_1.toNat (0:Int)),()) with
        | .ret r_2 =>
          match (!r_2) with
          | true =>
            .ret false
          | false =>
            L4n_0 N n_L4n_0 x (IntKind.i64.wrap (i_1+(1:Int)))
        | .pan p_3 =>
          .pan p_3
        | .fail=>.fail
      else .fail
    | false =>
      match f9n ((lenI x.1),((1:Int),((6:Int),()))) with
      | .ret r_4 =>
        .ret r_4
      | .pan p_5 =>
        .pan p_5
      | .fail=>.fail:Out Bool):=by
  kernel_rfl
noncomputable def F4n (N:Nat) (x:((List Int)×Unit)):Out Bool :=
  L4n_0 N N x (0:Int)
theorem e4n (N:Nat) (x:((List Int)×Unit)):vfn Try.prog (phi specs4n) hints4n N Try.f4 false false (.prod (.list (.int .i64)) .unit) .bool x=F4n N x:=by
  kernel_rfl
noncomputable def f4n (x:((List Int)×Unit)):Out Bool:=F4n fuel x
noncomputable def sp4n:Spec:=⟨4,.call,(.prod (.list (.int .i64)) .unit),.bool,false,false,f4n⟩
theorem c4n:Contract Try.prog sp4n:=contract_at (l:=specs4n) (arg:=(.prod (.list (.int .i64)) .unit)) (res:=.bool) (multi:=false) (own:=false) (F:=f4n) mixed (all_cons c8n (all_cons c9n all_nil)) Try.func4 rfl hints4n fun x _=>⟨fuel,e4n fuel x⟩
noncomputable def specs18n:List Spec:=[sp115,sp116]
def hints18n:List (Nat×List Nat):=[(3,[0,5,9,10,11])]
noncomputable def L18n_0 (N:Nat) (n_L18n_0:Nat) (x:((List Int)×((List Int)×Unit))) (out_1:(List (Int×(Int×Unit)))) (t11_2:Int):Out (List (Int×(Int×Unit))) :=
  vloop Try.prog (phi specs18n) hints18n N Try.f18 false false (.list (.prod (.int .i64) (.prod (.int .i64) .unit))) [.at 1,.at 1,.at 0,.at 1,.at 0] n_L18n_0 [.d (.list (.int .i64)) x.1,.und,.und,.und,.und,.own (.prod (.int .i64) (.prod (.int .i64) .unit)) out_1 false,.und,.und,.und,.d (.list (.int .i64)) x.2.1,.d (.int .i64) (lenI x.2.1),.d (.int .i64) t11_2,.und,.und,.und,.und,.und,.und,.und,.und,.und,.und,.und,.und,.und,.und,.und,.und,.und,.und,.und,.und,.und,.und,.und,.und,.und,.und,.und,.und]
theorem L18n_0_succ (N:Nat) (n_L18n_0:Nat) (x:((List Int)×((List Int)×Unit))) (out_1:(List (Int×(Int×Unit)))) (t11_2:Int):L18n_0 N  (n_L18n_0+1) x out_1 t11_2 =
    (
    match (decide (t11_2<(lenI x.2.1))) with
    | true =>
      bif (inb t11_2 x.2.1.length) then
        bif (inb t11_2 x.1.length) then
          match ((List.getD x.2.1 t11_2.toNat (0:Int))==(List.getD x.1 t11_2.toNat (0:Int))) with
          | true =>
            L18n_0 N n_L18n_0 x out_1 (IntKind.i64.wrap (t11_2+(1:Int)))
          | false =>
            match f115 (x.1,(t11_2,())) with
            | .ret r_3 =>
              match f116 (r_3,((List.getD x.2.1 t11_2.toNat (0:Int)),())) with
              | .ret r_5 =>
                match (r_5==(0:Int)) with
                | true =>
                  .pan (.iface 71 (toVal (.prod (.int .i64) .unit) ((valOf (.prod (.int .i64) .unit) (t11_2,())).getD [])))
                | false =>
                  bif (fits out_1 ([(t11_2,(r_5,()))]:List (Int×(Int×Unit)))) then
                    L18n_0 N n_L18n_0 x (out_1++([(t11_2,(r_5,()))]:List (Int×(Int×Unit)))) (IntKind.i64.wrap (t11_2+(1:Int)))
                  else .fail
              | .pan p_6 =>
                .pan p_6
              | .fail=>.fail
            | .pan p_4 =>
              .pan p_4
            | .fail=>.fail
        else .fail
      else .fail
    | false =>
      .ret out_1:Out (List (Int×(Int×Unit)))):=by
  kernel_rfl
noncomputable def F18n (N:Nat) (x:((List Int)×((List Int)×Unit))):Out (List (Int×(Int×Unit))) :=
  L18n_0 N N x ([]:List (Int×(Int×Unit))) (0:Int)
theorem e18n (N:Nat) (x:((List Int)×((List Int)×Unit))):vfn Try.prog (phi specs18n) hints18n N Try.f18 false false (.prod (.list (.int .i64)) (.prod (.list (.int .i64)) .unit)) (.list (.prod (.int .i64) (.prod (.int .i64) .unit))) x=F18n N x:=by
  kernel_rfl
noncomputable def f18n (x:((List Int)×((List Int)×Unit))):Out (List (Int×(Int×Unit))):=F18n fuel x
noncomputable def sp18n:Spec:=⟨18,.call,(.prod (.list (.int .i64)) (.prod (.list (.int .i64)) .unit)),(.list (.prod (.int .i64) (.prod (.int .i64) .unit))),false,false,f18n⟩
theorem c18n:Contract Try.prog sp18n:=contract_at (l:=specs18n) (arg:=(.prod (.list (.int .i64)) (.prod (.list (.int .i64)) .unit))) (res:=(.list (.prod (.int .i64) (.prod (.int .i64) .unit)))) (multi:=false) (own:=false) (F:=f18n) mixed (all_cons c115 (all_cons c116 all_nil)) Try.func18 rfl hints18n fun x _=>⟨fuel,e18n fuel x⟩
end Go.V
namespace Go.V
inductive RT where
  | ret (st:St)
  | fail
  | onOut (t:Ty) (o:Out t.den) (f:t.den->RT) (g:Value->RT)
section
variable {ρ : Type} (P : Program) (Φ : Nat → List Spec) (hints : List (Nat × List Nat)) (N : Nat)
def runRT:RT->(St->Out ρ)->Out ρ
  | .ret st,k=>k st
  | .fail,_=>.fail
  | .onOut _ o f g,k=>match o with
    | .ret r=>runRT (f r) k
    | .pan p=>runRT (g p) k
    | .fail=>.fail
def vcut (g:St->RT):List Nat->Code->(X->St->Out ρ)->St->Out ρ
  | [],_,k,st=>runRT (g st) (fun s=>k .normal s)
  | p :: ps,.seq a b,k,st=>(match p with
    | 0=>vcut g ps a (fun e s=>match e with | .normal=>vexec P Φ hints N b none k s|e=>k e s) st
    | _=>vexec P Φ hints N a none (fun e s=>match e with | .normal=>vcut g ps b k s|e=>k e s) st)
  | _ :: ps,.block id b,k,st=>vcut g ps b (fun e s=>match e with
      | .exit i=>if i=id then k .normal s else k (.exit i) s
      | e=>k e s) st
  | _ :: ps,.scope b,k,st=>vcut g ps b k st
  | _,_,_,_=>.fail
def vfnCut (g:St->RT) (path:List Nat) (f:Func) (multi own:Bool) (a t:Ty) (x:a.den):Out t.den :=
  vcut P Φ hints N g path (bodyOf f) (kEnd P f.results.toList multi own t) (st0 f.ntmps a x)
def atWay:List Nat->Code->Option Code
  | [],c=>some c
  | p :: ps,.seq a b=>(match p with|0=>atWay ps a|_=>atWay ps b)
  | _ :: ps,.block _ b=>atWay ps b
  | _ :: ps,.scope b=>atWay ps b
  | _,_=>none
end
section
variable {P : Program} [Inv P] {Φ : Nat → List Spec} {ρ : Type}
def RegOK (P:Program) [Inv P] (c:Code) (g:St->RT):Prop :=
  ∀ {ρ:Type} (F:Nat->Prop) (M0:Base) (w0:World) (n:Nat),(∀ w,Fr F w0 w->Inv.I P w)->(∀ j v,M0.pin j=some v->False) ->
    ∀ (k:St->Out ρ) (fin:Out ρ) (Q:Exit->Act->World->Prop),fin ≠ .fail->(∀ st a w,Conc F M0 w0 st a w->k st=fin->Q .normal a w) ->
      ∀ st a w,Conc F M0 w0 st a w->runRT (g st) k=fin->c.wpIn (fen none) n P Q a w
theorem cut_ok (hΦ:∀ g sp,sp∈Φ g->Contract P sp) (hm:P.follows .mixedOrders=true) (hints:List (Nat×List Nat)) (N:Nat) {fin:Out ρ} (hf:fin ≠ .fail) {g:St->RT} {F:Nat->Prop} {M0:Base} {w0:World} {n:Nat}
    (hI:∀ w,Fr F w0 w->Inv.I P w) (hpl:∀ j v,M0.pin j=some v->False):∀ (path:List Nat) (c r:Code),atWay path c=some r->RegOK P r g->∀ (k:X->St->Out ρ) (Q:Exit->Act->World->Prop),
      (∀ p q,fin = .pan p->Like p q->∀ st a w,Conc F M0 w0 st a w->Q (.panic [{ v:=q,recovered:=false }]) a w) ->
      (∀ x st a w,Conc F M0 w0 st a w->k x st=fin->Q x.exit' a w)->∀ st a w,Conc F M0 w0 st a w->vcut P Φ hints N g path c k st=fin->c.wpIn (fen none) n P Q a w
  | [],c,r,hr,hR,k,Q,_,hQ,st,a,w,hc,h=>by
    cases hr
    exact hR F M0 w0 n hI hpl _ fin Q hf (fun st a w hc h=>hQ .normal st a w hc h) st a w hc h
  | 0 :: ps,.seq x y,r,hr,hR,k,Q,hp,hQ,st,a,w,hc,h=>by
    refine wpIn_seq (cut_ok hΦ hm hints N hf hI hpl ps x r hr hR _ _ ?_ ?_ st a w hc h)
    . intro p q e hq st a w hc;exact hp p q e hq st a w hc
    . intro e st a w hc h
      cases e with
      | normal=>exact code_ok hΦ hm hints N hf y F M0 w0 none none n (fun _=>rfl) hI (fun j v hj=>(hpl j v hj).elim) k Q (fun _=>hp) hQ st a w hc h
      | exit i=>exact hQ (.exit i) st a w hc h
      | ret=>exact hQ .ret st a w hc h
  | (_+1) :: ps,.seq x y,r,hr,hR,k,Q,hp,hQ,st,a,w,hc,h=>by
    refine wpIn_seq (code_ok hΦ hm hints N hf x F M0 w0 none none n (fun _=>rfl) hI (fun j v hj=>(hpl j v hj).elim) _ _ ?_ ?_ st a w hc h)
    . intro _ p q e hq st a w hc;exact hp p q e hq st a w hc
    . intro e st a w hc h
      cases e with
      | normal=>exact cut_ok hΦ hm hints N hf hI hpl ps y r hr hR k Q hp hQ st a w hc h
      | exit i=>exact hQ (.exit i) st a w hc h
      | ret=>exact hQ .ret st a w hc h
  | _ :: ps,.block id b,r,hr,hR,k,Q,hp,hQ,st,a,w,hc,h=>by
    refine wpIn_block (cut_ok hΦ hm hints N hf hI hpl ps b r hr hR _ _ ?_ ?_ st a w hc h)
    . intro p q e hq st a w hc;exact hp p q e hq st a w hc
    . intro x st a w hc h
      cases x with
      | normal=>exact hQ .normal st a w hc h
      | ret=>exact hQ .ret st a w hc h
      | exit i =>
        show if i=id then _ else _
        dsimp only at h
        split
        . rename_i e;rw [if_pos e] at h;exact hQ .normal st a w hc h
        . rename_i e;rw [if_neg e] at h;exact hQ (.exit i) st a w hc h
  | _ :: ps,.scope b,r,hr,hR,k,Q,hp,hQ,st,a,w,hc,h=>by
    refine wpIn_wide.2 (wp_scope_straight ((wpIn_wide (n:=n)).1 (cut_ok hΦ hm hints N hf hI hpl ps b r hr hR k _ ?_ ?_ st a w hc h)))
    . intro p q e hq st a w hc;exact hp p q e hq st a w hc
    . intro x st a w hc h
      have:=hQ x st a w hc h
      cases x<;>exact this
  | _ :: _,.skip,_,hr,_,_,_,_,_,_,_,_,_,_=>by cases hr
  | _ :: _,.region _ _ _,_,hr,_,_,_,_,_,_,_,_,_,_=>by cases hr
  | _ :: _,.cond _ _ _,_,hr,_,_,_,_,_,_,_,_,_,_=>by cases hr
  | _ :: _,.loop _,_,hr,_,_,_,_,_,_,_,_,_,_=>by cases hr
  | _ :: _,.rangeFunc _ _ _ _,_,hr,_,_,_,_,_,_,_,_,_,_=>by cases hr
  | _ :: _,.exit _,_,hr,_,_,_,_,_,_,_,_,_,_=>by cases hr
  | _ :: _,.label _,_,hr,_,_,_,_,_,_,_,_,_,_=>by cases hr
  | _ :: _,.goto _,_,hr,_,_,_,_,_,_,_,_,_,_=>by cases hr
  | _ :: _,.ret,_,hr,_,_,_,_,_,_,_,_,_,_=>by cases hr
  | _ :: _,.refuse _,_,hr,_,_,_,_,_,_,_,_,_,_=>by cases hr
end
section
variable {P : Program} [Inv P]
end
end Go.V
namespace Go.V
theorem contract_cut {P:Program} [Inv P] (hm:P.follows .mixedOrders=true) {l:List Spec} (hl:∀ sp∈l,Contract P sp) {fnn:Nat} {arg res:Ty} {multi own:Bool} {F:arg.den->Out res.den} {fn:Func} {c r:Code}
    (hfn:P.funcs[fnn]? = some fn) (hb:fn.body=some c) {g:St->RT} {path:List Nat} (hr:atWay path c=some r) (hR:RegOK P r g) (hints:List (Nat×List Nat))
    (h:∀ x,F x ≠ .fail->∃ n,vfnCut P (phi l) hints n g path fn multi own arg res x=F x):Contract P ⟨fnn,.call,arg,res,multi,own,F⟩:=by
  intro x M w vs hI hvs hlt
  have hI':∀ w',Fr (· < w.heap.size) w w'->Inv.I P w':=fun w' hf=>Inv.below _ _ hI hf.toBelow
  have hdm:∀ D,(base0 M w).dm D->¬ (D<w.heap.size):=fun D hD=>Nat.not_lt.2 hD
  have hst:=start (n:=fn.ntmps) hvs hlt
  cases hx:F x with
  | fail=>simp only [hx]
  | ret r0 =>
    obtain ⟨n,hv⟩:=h x (by rw [hx];simp)
    rw [hx] at hv
    unfold vfnCut bodyOf at hv
    rw [hb] at hv
    simp only [hx]
    refine callsIn_wide.1 (callsIn_of_wp_marks (n:=0) hfn hb trivial (cut_ok (phi_ok hl) hm hints n (by simp) hI' (fun j v hj=>by cases hj) path c r hr hR _ _ ?_ ?_ _ _ _ ⟨Fr.refl _ _,M,hst⟩ hv))
    . intro p q hp;cases hp
    . intro e st a w' hc hk
      have key:vres P fn.results.toList multi own res st = .ret r0->LeavesInM Fence.wide 0 P fn a.tmps (fun e w'=>∃ v,e = .returned v/\Go.RowKit.Below w.heap.size w w'/\ResOK M w w' multi own res v r0) a.defers .returning w':=by
        intro hk
        obtain ⟨hb',M',hg⟩:=hc
        refine leave (M0:=base0 M w) (F:=(· < w.heap.size)) (w0:=w) (st:=st) (by simp) (fun M2 w2 hg2 hf2=>?_) hdm a.defers M' w' hg hb'
        obtain ⟨r',h1,v,h2,h3,h4⟩:=vres_ok (fn:=fn) hg2 (by simp) hk
        cases h1
        refine ⟨v,h2,v,rfl,hf2.toBelow,M2,hg2.up,fun b o hM=>?_,h3,fun b h5 h6=>Nat.le_of_not_lt (h4 b h5 h6)⟩
        rcases Nat.lt_or_ge b w.heap.size with h5|h5
        . exact .inl (hg2.down b o h5 hM)
        . exact .inr ⟨h5,hg2.lt b o hM⟩
      cases e with
      | normal=>exact key hk
      | ret=>exact key hk
      | exit i=>cases hk
  | pan p =>
    obtain ⟨n,hv⟩:=h x (by rw [hx];simp)
    rw [hx] at hv
    unfold vfnCut bodyOf at hv
    rw [hb] at hv
    simp only [hx]
    refine callsIn_wide.1 (callsIn_of_wp_marks (n:=0) hfn hb trivial (cut_ok (phi_ok hl) hm hints n (by simp) hI' (fun j v hj=>by cases hj) path c r hr hR _ _ ?_ ?_ _ _ _ ⟨Fr.refl _ _,M,hst⟩ hv))
    . intro p' q hp hq st a w' hc
      cases hp
      obtain ⟨hb',M',hg⟩:=hc
      exact leave (M0:=base0 M w) (F:=(· < w.heap.size)) (w0:=w) (st:=st) (R:=fun e w'=>(∃ q,Like p q/\e = .panicked [{ v:=q,recovered:=false }])/\Go.RowKit.Below w.heap.size w w') (mode:=.panicking [{ v:=q,recovered:=false }]) (by simp)
        (fun M2 w2 hg2 hf2=>⟨⟨q,hq,rfl⟩,hf2.toBelow⟩) hdm a.defers M' w' hg hb'
    . intro e st a w' hc hk
      obtain ⟨hb',M',hg⟩:=hc
      have key:vres P fn.results.toList multi own res st ≠ .pan p:=by
        intro hk
        obtain ⟨r',h1,_⟩:=vres_ok (fn:=fn) hg (by simp) hk
        cases h1
      cases e with
      | normal=>exact absurd hk key
      | ret=>exact absurd hk key
      | exit i=>cases hk
end Go.V
namespace Go.V
open Go.Proofs
open Go.RowKit (Below)
abbrev LNI:Ty:=.list (.int .i64)
abbrev ERT:Ty:=.prod (.int .i64) (.prod (.int .i64) .unit)
noncomputable def reg17:Array Oper:=match findRegion 0 (bodyOf Try.f17) with|some o=>o|none => #[]
theorem info17:reg17.toList.map opInfo=[
  (some 3,.load 22 (.tmp 0),none),
  (some 4,.load 22 (.tmp 1),none),
  (some 5,.call { callee:=.value (.func 18),args := #[.tmp 3,.tmp 4],argTypes := #[22,22] },none),
  (none,.store 25 (.tmp 2) (.tmp 5),none)]:=by kernel_rfl
theorem size17:reg17.size=4:=by kernel_rfl
theorem body17:Try.f17.body=some (.region 0 reg17 false):=by kernel_rfl
theorem info_at17 {i:Nat} {x:Option Tmp×Op×Option (Nat×Bool)} (hx:(reg17.toList.map opInfo)[i]? = some x):∃ o,reg17[i]? = some o/\o.dst=x.1/\o.op=x.2.1/\o.guard=x.2.2:=by
  rw [List.getElem?_map,Array.getElem?_toList] at hx
  cases h:reg17[i]? with
  | none=>rw [h] at hx;cases hx
  | some o=>rw [h] at hx;cases hx;exact ⟨o,rfl,rfl,rfl,rfl⟩
theorem ex_call18 {a:Act} {w:World} {o:Oper} {u v:Value} (ho:o.op = .call { callee:=.value (.func 18),args := #[.tmp 3,.tmp 4],argTypes := #[22,22] }) (h1:tm a 3=u) (h2:tm a 4=v):(execOp a.eval o).run Try.prog w = .ok (.enter 18 #[u,v]) w:=by
  have e1:a.eval (.tmp 3)=u:=h1
  have e2:a.eval (.tmp 4)=v:=h2
  have e4:a.eval (.func 18) = .func (.func 18) #[] #[]:=rfl
  have e3:=enters_run (P:=Try.prog) (g:=18) (by kernel_rfl) #[u,v] w
  simp [execOp,ho,resolve,e1,e2,e4,Deferred.ofValue,invoke,e3]
theorem ty22:tyOf Try.prog 9 22=some LNI:=by kernel_rfl
theorem ty25:tyOf Try.prog 9 25=some (.list ERT):=by kernel_rfl
set_option maxHeartbeats 2000000 in
theorem err1_ret {w:World} {b0 b1 b2 T0 T1:Nat} {u v:Value} (h0:w.heap[b0]? = some (.cells #[u] T0 (0,0))) (h1:w.heap[b1]? = some (.cells #[v] T1 (0,0))) {R:Value->World->Prop}
    (h4:∀ r w',R r w'->(∃ c0 T4,w'.heap[b2]? = some (.cells #[c0] T4 (0,0)))/\r.oneCell'=true/\r.cells = #[r])
    (h:Calls Try.prog 18 #[u,v] w fun e w'=>∃ r,e = .returned r/\R r w') :
    Calls Try.prog 17 #[.pointer (some ⟨b0,0,none⟩),.pointer (some ⟨b1,0,none⟩),.pointer (some ⟨b2,0,none⟩)] w fun e w'=>(∃ u,e = .returned u)/\∃ r w2,R r w2/\w'=w2.setRow b2 #[r]:=by
  refine (callsIn_wide (n:=0)).1 (callsIn_of_wp Try.func17 body17 trivial (wpIn_region ?_))
  rw [size17]
  obtain ⟨o0,i0,d0,p0,q0⟩:=info_at17 (i:=0) (x:=(some 3,.load 22 (.tmp 0),none)) (by rw [info17];rfl)
  obtain ⟨o1,i1,d1,p1,q1⟩:=info_at17 (i:=1) (x:=(some 4,.load 22 (.tmp 1),none)) (by rw [info17];rfl)
  obtain ⟨o2,i2,d2,p2,q2⟩:=info_at17 (i:=2) (x:=(some 5,.call { callee:=.value (.func 18),args := #[.tmp 3,.tmp 4],argTypes := #[22,22] },none)) (by rw [info17];rfl)
  obtain ⟨o3,i3,d3,p3,q3⟩:=info_at17 (i:=3) (x:=(none,.store 25 (.tmp 2) (.tmp 5),none)) (by rw [info17];rfl)
  show wpOpsIn (fen none) 0 Try.prog reg17 _ [0,1,2,3] _ w
  rw [Try.ntmps17,wpOpsIn_cons]
  refine opn_value i0 (wanted_none q0) (fun c h=>by rw [p0] at h;cases h) (ex_load1 ty22 rfl rfl p0 rfl h0) ?_
  rw [d0,wpOpsIn_cons]
  refine opn_value i1 (wanted_none q1) (fun c h=>by rw [p1] at h;cases h) (ex_load1 ty22 rfl rfl p1 rfl h1) ?_
  rw [d1,wpOpsIn_cons]
  refine opn_enter i2 (wanted_none q2) (fun c h=>by rw [p2] at h;cases h) (ex_call18 p2 rfl rfl) (h.mono ?_)
  rintro e w2 ⟨r,rfl,hR⟩
  obtain ⟨⟨c0,T4,h4'⟩,h5,h6⟩:=h4 _ _ hR
  refine ⟨_,rfl,?_⟩
  rw [d2,wpOpsIn_cons]
  refine opn_skipped i3 (wanted_none q3) (fun c h=>by rw [p3] at h;cases h) (ex_store1 ty25 rfl p3 rfl rfl h5 h6 h4') ?_
  rw [d3]
  refine bodyPost_end (results_none rfl _ _ _) rfl ?_
  exact ⟨⟨_,rfl⟩,r,w2,hR,rfl⟩
set_option maxHeartbeats 2000000 in
theorem err1_pan {w:World} {b0 b1 b2 T0 T1:Nat} {u v:Value} (h0:w.heap[b0]? = some (.cells #[u] T0 (0,0))) (h1:w.heap[b1]? = some (.cells #[v] T1 (0,0))) {R:List PanicEntry->World->Prop}
    (h:Calls Try.prog 18 #[u,v] w fun e w'=>∃ c,e = .panicked c/\R c w') :
    Calls Try.prog 17 #[.pointer (some ⟨b0,0,none⟩),.pointer (some ⟨b1,0,none⟩),.pointer (some ⟨b2,0,none⟩)] w fun e w'=>∃ c,e = .panicked c/\R c w':=by
  refine (callsIn_wide (n:=0)).1 (callsIn_of_wp Try.func17 body17 trivial (wpIn_region ?_))
  rw [size17]
  obtain ⟨o0,i0,d0,p0,q0⟩:=info_at17 (i:=0) (x:=(some 3,.load 22 (.tmp 0),none)) (by rw [info17];rfl)
  obtain ⟨o1,i1,d1,p1,q1⟩:=info_at17 (i:=1) (x:=(some 4,.load 22 (.tmp 1),none)) (by rw [info17];rfl)
  obtain ⟨o2,i2,d2,p2,q2⟩:=info_at17 (i:=2) (x:=(some 5,.call { callee:=.value (.func 18),args := #[.tmp 3,.tmp 4],argTypes := #[22,22] },none)) (by rw [info17];rfl)
  show wpOpsIn (fen none) 0 Try.prog reg17 _ [0,1,2,3] _ w
  rw [Try.ntmps17,wpOpsIn_cons]
  refine opn_value i0 (wanted_none q0) (fun c h=>by rw [p0] at h;cases h) (ex_load1 ty22 rfl rfl p0 rfl h0) ?_
  rw [d0,wpOpsIn_cons]
  refine opn_value i1 (wanted_none q1) (fun c h=>by rw [p1] at h;cases h) (ex_load1 ty22 rfl rfl p1 rfl h1) ?_
  rw [d1,wpOpsIn_cons]
  refine opn_enter_pan i2 (wanted_none q2) (fun c h=>by rw [p2] at h;cases h) (ex_call18 p2 rfl rfl) (h.mono ?_)
  rintro e w2 ⟨c,rfl,hR⟩
  exact ⟨c,rfl,rfl,c,rfl,hR⟩
end Go.V
namespace Go.V
open Go.Proofs
open Go.RowKit (Below)
theorem arr_one {cs:Array Value} (h:cs.size=1):∃ c,cs = #[c]:=by
  match cs,h with
  | ⟨[c]⟩,_=>exact ⟨c,rfl⟩
theorem heap_new1 (w:World) (o:Obj):(w.alloc o).heap[w.heap.size]? = some o:=heap_at rfl
noncomputable def regE:Array Oper:=match findRegion 4 (bodyOf Try.f6) with|some o=>o|none => #[]
theorem infoE:regE.toList.map opInfo=[
  (some 23,.makeFunc (.func 17) #[] #[.tmp 2,.tmp 3,.tmp 6],none),
  (some 24,.call { callee:=.value (.func 16),args := #[.tmp 23],argTypes := #[1] },none),
  (some 7,.assign (.tmp 24),none)]:=by kernel_rfl
theorem sizeE:regE.size=3:=by kernel_rfl
theorem info_atE {i:Nat} {x:Option Tmp×Op×Option (Nat×Bool)} (hx:(regE.toList.map opInfo)[i]? = some x):∃ o,regE[i]? = some o/\o.dst=x.1/\o.op=x.2.1/\o.guard=x.2.2:=by
  rw [List.getElem?_map,Array.getElem?_toList] at hx
  cases h:regE[i]? with
  | none=>rw [h] at hx;cases hx
  | some o=>rw [h] at hx;cases hx;exact ⟨o,rfl,rfl,rfl,rfl⟩
def errOf (p:Value):Option Int :=
  match p with
  | .iface T (.agg cs)=>bif cs.size==1 && cs.toList.all (·.oneCell') then (bif T==71 then some 5 else bif T==73 then some 4 else none) else none
  | _=>none
theorem errOf_some {p:Value} {e:Int} (h:errOf p=some e):∃ T cs,p = .iface T (.agg cs)/\cs.size=1/\cs.toList.all (·.oneCell')=true/\((T=71/\e=5)\/(T=73/\e=4)):=by
  unfold errOf at h
  split at h
  . rename_i T cs
    cases hc:(cs.size==1 && cs.toList.all (·.oneCell')) with
    | false=>rw [hc] at h;cases h
    | true =>
      rw [hc] at h
      simp only [Bool.and_eq_true,beq_iff_eq] at hc
      refine ⟨T,cs,rfl,hc.1,hc.2,?_⟩
      cases h1:T==71 with
      | true=>rw [h1] at h;cases h;exact .inl ⟨by simpa using h1,rfl⟩
      | false =>
        rw [h1] at h
        cases h2:T==73 with
        | true=>rw [h2] at h;cases h;exact .inr ⟨by simpa using h2,rfl⟩
        | false=>rw [h2] at h;cases h
  . cases h
def errOut (p:Value):Out Int:=match errOf p with|some e=>.ret e|none=>.fail
theorem errOut_ret {p:Value} {e:Int} (h:errOut p = .ret e):errOf p=some e:=by
  unfold errOut at h
  split at h
  . rename_i h2;cases h;exact h2
  . cases h
theorem errOut_pan (p q:Value):errOut p ≠ .pan q:=by
  unfold errOut
  split<;>simp
def clrE (st:St):St:=((st.map dropS).set 23 .und).set 24 .und
noncomputable def gE (st:St):RT:=match get st 2 with
  | .box [.d (.list (.int .i64)) xs]=>(match get st 3 with
    | .box [.d (.list (.int .i64)) ys]=>(match get st 6 with
      | .box [_]=>(match isBox (get st 23) || isBox (get st 24) || isBox (get st 7) || !(st.length==29) with
        | true=>.fail
        | false=>.onOut (.list ERT) (f18n (xs,(ys,()))) (fun r=>.ret (((((st.map dropS).set 6 (.box [.d (.list ERT) r])).set 23 .und).set 24 .und).set 7 (.d (.int .i64) (0:Int))))
            (fun p=>.onOut (.int .i64) (errOut p) (fun e=>.ret ((clrE st).set 7 (.d (.int .i64) e))) (fun _=>.fail)))
      | _=>.fail)
    | _=>.fail)
  | _=>.fail
theorem ex_make17 {a:Act} {w:World} {o:Oper} (ho:o.op = .makeFunc (.func 17) #[] #[.tmp 2,.tmp 3,.tmp 6]):(execOp a.eval o).run Try.prog w = .ok (.value (.func (.func 17) #[] #[tm a 2,tm a 3,tm a 6])) w:=by
  simp [execOp,ho,Instr.makeFunc,Act.eval]
theorem ex_call16 {a:Act} {w:World} {o:Oper} {v:Value} (ho:o.op = .call { callee:=.value (.func 16),args := #[.tmp 23],argTypes := #[1] }) (h1:tm a 23=v):(execOp a.eval o).run Try.prog w = .ok (.enter 16 #[v]) w:=by
  have e1:a.eval (.tmp 23)=v:=h1
  have e4:a.eval (.func 16) = .func (.func 16) #[] #[]:=rfl
  have e3:=enters_run (P:=Try.prog) (g:=16) (by kernel_rfl) #[v] w
  simp [execOp,ho,resolve,e1,e4,Deferred.ofValue,invoke,e3]
theorem tailE {F:Nat->Prop} {M0:Base} {w0:World} {n:Nat} {Q:Exit->Act->World->Prop} {st:St} {a:Act} {w:World} (hsz:a.tmps.size=29) (e:Int)
    (hcall:Calls Try.prog 16 #[.func (.func 17) #[] #[tm a 2,tm a 3,tm a 6]] w fun x w'=>x = .returned (.int .i64 e)/\Fr F w0 w'/\∃ M,Good M0 F M st a w')
    (h10:isBox (get st 23)=false) (h11:isBox (get st 24)=false) (h5:isBox (get st 7)=false)
    (hQ:∀ a w,Conc F M0 w0 (((st.set 23 .und).set 24 .und).set 7 (.d (.int .i64) e)) a w->Q .normal a w):(Code.region 4 regE false).wpIn (fen none) n Try.prog Q a w:=by
  obtain ⟨o0,i0,d0,p0,q0⟩:=info_atE (i:=0) (x:=(some 23,.makeFunc (.func 17) #[] #[.tmp 2,.tmp 3,.tmp 6],none)) (by rw [infoE];rfl)
  obtain ⟨o1,i1,d1,p1,q1⟩:=info_atE (i:=1) (x:=(some 24,.call { callee:=.value (.func 16),args := #[.tmp 23],argTypes := #[1] },none)) (by rw [infoE];rfl)
  obtain ⟨o2,i2,d2,p2,q2⟩:=info_atE (i:=2) (x:=(some 7,.assign (.tmp 24),none)) (by rw [infoE];rfl)
  refine wpIn_region ?_
  rw [sizeE]
  show wpOpsIn (fen none) n Try.prog regE Q [0,1,2] a w
  rw [wpOpsIn_cons]
  refine opn_value i0 (wanted_none q0) (fun c h=>by rw [p0] at h;cases h) (ex_make17 p0) ?_
  rw [d0,wpOpsIn_cons]
  refine opn_enter i1 (wanted_none q1) (fun c h=>by rw [p1] at h;cases h) (ex_call16 p1 (tm_put_same (by omega))) (hcall.mono ?_)
  rintro x w' ⟨rfl,hfr,M,hg⟩
  refine ⟨_,rfl,?_⟩
  rw [d1,wpOpsIn_cons]
  refine opn_value i2 (wanted_none q2) (fun c h=>by rw [p2] at h;cases h) (ex_assign p2) ?_
  rw [d2,tm_put_same (by rw [size_put];omega)]
  refine hQ _ _ ⟨hfr,M,?_⟩
  have g1:=put_und hg h10 (.func (.func 17) #[] #[tm a 2,tm a 3,tm a 6])
  have g2:=put_und g1 (d:=24) (by rw [get_setne (by omega)];exact h11) (.int .i64 e)
  exact g2.fin (dst:=some 7) (s:=.d (.int .i64) e) (v:=.int .i64 e) (fun d hd=>by cases hd;rw [get_setne (by omega),get_setne (by omega)];exact h5) rfl ⟨[_],rfl,rfl⟩
theorem good_ret1 {F:Nat->Prop} {M0:Base} {st:St} {a:Act} {w W2 w':World} {M M2:Mut} (hg:Good M0 F M st a w) {i b4:Nat} {cs:List C} {c0 v0:Value} {T4:TypeId} {r:List (Int×Int×Unit)} (hi:get st i = .box cs) (hcs:cs.length=1)
    (hti:tm a i = .pointer (some ⟨b4,0,none⟩)) (hh:w.heap[b4]? = some (.cells #[c0] T4 (0,0)))
    (hb:Below w.heap.size w W2) (hsz:w.heap.size<W2.heap.size) (hM2:∀ b o,(M b o\/b=w.heap.size)->M2 b o) (hM2':∀ b o,M2 b o->(M b o\/b=w.heap.size)\/(w.heap.size<b/\b<W2.heap.size)) (hcell:∃ cs T,W2.heap[w.heap.size]? = some (.cells cs T (0,0)))
    (hrep:RepC M2 W2 (.list ERT) [v0] r) (hfr:Fr (fun b=>b<W2.heap.size/\b≠w.heap.size) (W2.setRow b4 #[v0]) w') :
    Good M0 F M2 (st.set i (.box [.d (.list ERT) r])) a w':=by
  have hb4:b4<w.heap.size:=(Array.getElem?_eq_some_iff.1 hh).1
  have hstab:Stable M w M2 W2:=fun b o u p q=>by
    have hlt:=cell_lt p
    refine ⟨(hb.cell (p:=⟨b,o,none⟩) hlt).trans p,fun h=>?_⟩
    rcases hM2' b o h with (h|h)|⟨h,_⟩
    . exact q h
    . omega
    . omega
  have G2:Good M0 F M2 st a W2:=by
    refine hg.world hstab hb.size (fun b o h=>hM2 b o (.inl (hg.up b o h))) (fun b o h=>?_) (fun b o hlt h=>?_) (KeepsD.below hb) fun i k b ho=>⟨hb.block b (owns_lt hg.slot ho),fun o h=>hM2 b o (.inl h)⟩
    . rcases hM2' b o h with (h|h)|⟨_,h⟩
      . exact Nat.lt_of_lt_of_le (hg.lt b o h) hb.size
      . omega
      . exact h
    . have hr:=hg.room b hlt
      rcases hM2' b o h with (h|h)|⟨h,_⟩
      . exact hg.down b o hlt h
      . omega
      . omega
  have hh2:W2.heap[b4]? = some (.cells #[c0] T4 (0,0)):=(hb.block b4 hb4).trans hh
  have G3:=G2.setbox (cs':=[.d (.list ERT) r]) (row := #[v0]) hi hti hh2 rfl
    (fun k c u h1 h2=>by
      match k,h1,h2 with
      | 0,h1,h2=>cases h1;cases h2;exact hrep
      | _+1,h1,_=>cases h1)
    (fun k u ys h=>by match k,h with|0,h=>cases h|_+1,h=>cases h)
    (fun k u ys h=>by match k,h with|0,h=>cases h|_+1,h=>cases h)
    (fun k c v g h hc=>by match k,h with|0,h=>cases h;cases hc|_+1,h=>cases h)
    (fun k k' c v g c1 v' h hc=>by match k,h with|0,h=>cases h;cases hc|_+1,h=>cases h)
  obtain ⟨ce,Te,hce⟩:=hcell
  have hne:w.heap.size≠b4:=by omega
  have hce3:(W2.setRow b4 #[v0]).heap[w.heap.size]? = some (.cells ce Te (0,0)):=(setRow_other (w:=W2) (b:=b4) (D := #[v0]) hne).trans hce
  have hsz3:(W2.setRow b4 #[v0]).heap.size=W2.heap.size:=by simp
  have hil:i<st.length:=by
    rcases Nat.lt_or_ge i st.length with h'|h'
    . exact h'
    . rw [get_oob h'] at hi;cases hi
  have hown:∀ j k b,owns (st.set i (.box [.d (.list ERT) r])) a (W2.setRow b4 #[v0]) j k b->b<w.heap.size:=by
    intro j k b ho
    by_cases hj:j=i
    . subst hj
      cases k with
      | none=>have:=ho.2;rw [hti] at this;cases this;exact hb4
      | some k =>
        obtain ⟨cs',x0,_,_,e1,e2,e3,_⟩:=ho
        rw [get_set _ _ _ _ hil,if_pos rfl] at e1
        cases e1
        match k,e2 with
        | 0,e2=>cases e2;cases e3
        | _+1,e2=>cases e2
    . cases k with
      | none =>
        obtain ⟨e1,e2⟩:=ho
        rw [get_set _ _ _ _ hil,if_neg hj] at e1
        exact owns_lt hg.slot (k:=none) (i:=j) ⟨e1,e2⟩
      | some k =>
        obtain ⟨cs',x0,cb,v,e1,e2,e3,e4,e5,e6⟩:=ho
        rw [get_set _ _ _ _ hil,if_neg hj] at e1
        have hcb:owns st a w j none cb:=⟨by rw [e1];rfl,e4⟩
        have hcblt:=owns_lt hg.slot hcb
        have hcbne:cb≠b4:=fun e=>by
          subst e
          exact hj (hg.one j none i none cb hcb ⟨by rw [hi];rfl,by rw [hti];rfl⟩).1
        have e5':w.cell? ⟨cb,k,none⟩=some v:=by
          rw [World.cell?_of_block (setRow_other (w:=W2) (b:=b4) (D := #[v0]) hcbne),World.cell?_of_block (hb.block cb hcblt)] at e5
          exact e5
        exact owns_lt hg.slot (i:=j) (k:=some k) ⟨cs',x0,cb,v,e1,e2,e3,e4,e5',e6⟩
  refine G3.world ?_ (by have:=hfr.size;omega) G3.up (fun b o h=>?_) G3.down ?_ fun j k b ho=>?_
  . intro b o u p q
    have hlt:=cell_lt p
    rw [hsz3] at hlt
    refine ⟨(World.cell?_of_block (hfr.block b ⟨hlt,fun e=>?_⟩)).trans p,q⟩
    exact q (hM2 b o (.inr e))
  . have:=G2.lt b o h
    have:=hfr.size
    omega
  . intro D c e
    have hlt:=(Array.getElem?_eq_some_iff.1 e).1
    rw [hsz3] at hlt
    exact (hfr.block D ⟨hlt,fun e'=>by rw [e',hce3] at e;cases e⟩).trans e
  . have:=hown j k b ho
    exact ⟨hfr.block b ⟨by omega,by omega⟩,fun _ h=>h⟩
end Go.V
namespace Go.V
open Go.Proofs
open Go.RowKit (Below)
theorem three_args (x y z:Value):(#[x,y,z]:Array Value) = #[] ++ #[x,y,z]:=by simp
theorem regE_ok:RegOK Try.prog (.region 4 regE false) gE:=by
  intro ρ F M0 w0 n hI hpl k fin Q hf hk st a w hc h
  unfold gE at h
  split at h
  rotate_left
  . exact absurd h.symm hf
  rename_i xs hs2
  split at h
  rotate_left
  . exact absurd h.symm hf
  rename_i ys hs3
  split at h
  rotate_left
  . exact absurd h.symm hf
  rename_i x6 hs6
  split at h
  . exact absurd h.symm hf
  rename_i hnb
  simp only [Bool.or_eq_false_iff] at hnb
  obtain ⟨⟨⟨n10,n11⟩,n5⟩,hlen⟩:=hnb
  have hlen:st.length=29:=by simpa using hlen
  obtain ⟨hfr,M,hg⟩:=hc.drop
  have hm:∀ i,get (st.map dropS) i=dropS (get st i):=fun i=>get_map st i
  have hsz:a.tmps.size=29:=hg.size.trans (by simpa using hlen)
  have hd2:get (st.map dropS) 2 = .box [.d LNI xs]:=by rw [hm,hs2];rfl
  have hd3:get (st.map dropS) 3 = .box [.d LNI ys]:=by rw [hm,hs3];rfl
  have hd6:get (st.map dropS) 6 = .box [dropC x6]:=by rw [hm,hs6];rfl
  have G1:=hg.alloc (.cells #[.int .i64 0] 26) (fun _=>True)
  have k2:=G1.slot 2
  rw [hd2] at k2
  obtain ⟨b2,T2,cells2,t2,h2,z2,_,k2⟩:=k2
  have k3:=G1.slot 3
  rw [hd3] at k3
  obtain ⟨b3,T3,cells3,t3,h3,z3,_,k3⟩:=k3
  have k6:=hg.slot 6
  rw [hd6] at k6
  obtain ⟨b6,T6,cells6,t6,h6,z6,_,_⟩:=k6
  obtain ⟨u,rfl⟩:=arr_one z2
  obtain ⟨v,rfl⟩:=arr_one z3
  obtain ⟨c0,rfl⟩:=arr_one z6
  have hb6:b6<w.heap.size:=(Array.getElem?_eq_some_iff.1 h6).1
  have r2:RepC (fun b o=>M b o\/(b=w.heap.size/\True)) (w.alloc (.cells #[.int .i64 0] 26)) LNI [u] xs:=k2 0 _ u rfl rfl
  have r3:RepC (fun b o=>M b o\/(b=w.heap.size/\True)) (w.alloc (.cells #[.int .i64 0] 26)) LNI [v] ys:=k3 0 _ v rfl rfl
  have hB1:Below w.heap.size w (w.alloc (.cells #[.int .i64 0] 26)):=(Below.refl _ _).alloc (Nat.le_refl _) _
  have hsz1:(w.alloc (.cells #[.int .i64 0] 26)).heap.size=w.heap.size+1:=by simp
  have hI1:Inv.I Try.prog (w.alloc (.cells #[.int .i64 0] 26)):=hI _ (hfr.alloc hg.room _)
  have hc18:=c18n (xs,(ys,())) _ (w.alloc (.cells #[.int .i64 0] 26)) #[u,v] hI1 ⟨u,[v],rfl,⟨[u],rfl,r2⟩,v,[],rfl,⟨[v],rfl,r3⟩,rfl⟩ G1.lt
  have hent:enters Try.prog 17=true:=by kernel_rfl
  have hb10:∀ st':St,(∀ j,j≠6->get st' j=get (st.map dropS) j)->isBox (get st' 23)=false/\isBox (get st' 24)=false/\isBox (get st' 7)=false:=fun st' hst' =>
    ⟨by rw [hst' 23 (by omega),hm];exact isBox_dropS n10,by rw [hst' 24 (by omega),hm];exact isBox_dropS n11,by rw [hst' 7 (by omega),hm];exact isBox_dropS n5⟩
  have hsp:sp18n.f (xs,(ys,()))=f18n (xs,(ys,())):=rfl
  rw [hsp] at hc18
  unfold runRT at h
  cases hx:f18n (xs,(ys,())) with
  | fail=>rw [hx] at h;exact absurd h.symm hf
  | ret r =>
    rw [hx] at h hc18
    dsimp only at h hc18
    have hb':=hb10 ((st.map dropS).set 6 (.box [.d (.list ERT) r])) fun j hj=>get_setne hj
    refine tailE hsz (0:Int) (F:=F) (M0:=M0) (w0:=w0) (st:=(st.map dropS).set 6 (.box [.d (.list ERT) r])) ?_ hb'.1 hb'.2.1 hb'.2.2 fun a w hc=>hk _ a w hc h
    rw [t2,t3,t6]
    have hc2:Calls Try.prog 18 #[u,v] (w.alloc (.cells #[.int .i64 0] 26)) fun e w'=>∃ q,e = .returned q /\
        (Below (w.heap.size+1) (w.alloc (.cells #[.int .i64 0] 26)) w'/\(∃ a c,q = .slice a r.length c)/\∃ M2:Mut,(∀ b o,(M b o\/(b=w.heap.size/\True))->M2 b o)/\(∀ b o,M2 b o->(M b o\/(b=w.heap.size/\True))\/(w.heap.size+1<=b/\b<w'.heap.size))/\RepC M2 w' (.list ERT) [q] r):=by
      refine hc18.mono ?_
      rintro e w' ⟨q,rfl,hbel,M2,m1,m2,⟨cs,e1,ad,cap,rfl,l2,l3⟩,_⟩
      have e1':q = .slice ad r.length cap:=e1
      subst e1'
      refine ⟨_,rfl,by rw [<- hsz1];exact hbel,⟨_,_,rfl⟩,M2,m1,fun b o h=>?_,ad,cap,rfl,l2,l3⟩
      have:=m2 b o h
      rw [hsz1] at this
      exact this
    have hr1:=err1_ret (b2:=b6) h2 h3 (fun q w' hR=>by
      obtain ⟨hbel,⟨ad,cc,rfl⟩,_⟩:=hR
      refine ⟨⟨c0,T6,?_⟩,rfl,rfl⟩
      rw [hbel.block b6 (by omega),hB1.block b6 hb6];exact h6) hc2
    rw [three_args (.pointer (some ⟨b2,0,none⟩)) (.pointer (some ⟨b3,0,none⟩)) (.pointer (some ⟨b6,0,none⟩))] at hr1
    refine (attempt_calls (v:=.func (.func 17) #[] #[.pointer (some ⟨b2,0,none⟩),.pointer (some ⟨b3,0,none⟩),.pointer (some ⟨b6,0,none⟩)]) (g:=17) (fs := #[]) (pc := #[.pointer (some ⟨b2,0,none⟩),.pointer (some ⟨b3,0,none⟩),.pointer (some ⟨b6,0,none⟩)]) rfl hent hr1 ?_).mono ?_
    . rintro e W ⟨⟨u,rfl⟩,q,W2,hR,rfl⟩
      refine ⟨?_,.inl ⟨u,rfl⟩⟩
      rw [setRow_other (by omega),hR.1.block _ (by omega)]
      exact heap_new1 w _
    . rintro e w' ⟨e0,W,⟨⟨u,rfl⟩,q,W2,⟨hbel,_,M2,m1,m2,hrep⟩,rfl⟩,hfrA,hend⟩
      have he:e = .returned (.int .i64 0):=by
        rcases hend with ⟨_,rfl⟩|⟨c,h,_⟩|⟨c,h,_⟩
        . rfl
        . cases h
        . cases h
      have hbW:Below w.heap.size w W2:=hB1.trans ⟨hbel.os,hbel.tape,hbel.output,hbel.size,fun k hk=>hbel.block k (by omega)⟩
      have hszW:w.heap.size<W2.heap.size:=by have:=hbel.size;omega
      rw [setRow_size] at hfrA
      refine ⟨he,?_,M2,good_ret1 hg hd6 rfl t6 h6 hbW hszW (fun b o h=>m1 b o (h.imp id fun h=>⟨h,trivial⟩)) (fun b o h=>(m2 b o h).imp (fun h=>h.imp id And.left) fun h=>⟨by omega,h.2⟩) ⟨_,_,(hbel.block _ (by omega)).trans (heap_new1 w _)⟩ hrep hfrA⟩
      have hnF:¬ F b6:=hg.new 6 none b6 ⟨by rw [hd6];rfl,by rw [t6];rfl⟩
      refine hfr.trans ⟨by rw [hfrA.os];exact hbW.os,by rw [hfrA.tape];exact hbW.tape,by rw [hfrA.output];exact hbW.output,by have:=hfrA.size;rw [setRow_size] at this;omega,fun k hk=>?_⟩
      have hkl:=hg.room k hk
      rw [hfrA.block k ⟨by omega,by omega⟩,setRow_other (b:=b6) (k:=k) (fun e=>hnF (e ▸ hk)),hbW.block k hkl]
  | pan p =>
    rw [hx] at h hc18
    dsimp only at h hc18
    unfold runRT at h
    cases he:errOut p with
    | fail=>rw [he] at h;exact absurd h.symm hf
    | pan q=>exact absurd he (errOut_pan p q)
    | ret e =>
    rw [he] at h
    have he:=errOut_ret he
    obtain ⟨T,cs,rfl,q1,q2,q3⟩:=errOf_some he
    have hb':=hb10 (st.map dropS) fun j _=>rfl
    refine tailE hsz e (F:=F) (M0:=M0) (w0:=w0) (st:=st.map dropS) ?_ hb'.1 hb'.2.1 hb'.2.2 fun a w hc=>hk _ a w hc h
    rw [t2,t3,t6]
    have hc2:Calls Try.prog 18 #[u,v] (w.alloc (.cells #[.int .i64 0] 26)) fun e w'=>∃ c,e = .panicked c/\((∃ c0:Value,c0.oneCell'=true/\c=[{ v:=.iface T (.agg #[c0]),recovered:=false }])/\Below (w.heap.size+1) (w.alloc (.cells #[.int .i64 0] 26)) w'):=by
      refine hc18.mono ?_
      rintro e w' ⟨⟨q,hq,rfl⟩,hbel⟩
      obtain ⟨cs',rfl,h6,h7⟩:=hq.agg q2
      obtain ⟨c,rfl⟩:=arr_one (h6.trans q1)
      exact ⟨_,rfl,⟨c,by simpa using h7,rfl⟩,by rw [<- hsz1];exact hbel⟩
    have hr1:=err1_pan (b2:=b6) h2 h3 hc2
    rw [three_args (.pointer (some ⟨b2,0,none⟩)) (.pointer (some ⟨b3,0,none⟩)) (.pointer (some ⟨b6,0,none⟩))] at hr1
    refine (attempt_calls (v:=.func (.func 17) #[] #[.pointer (some ⟨b2,0,none⟩),.pointer (some ⟨b3,0,none⟩),.pointer (some ⟨b6,0,none⟩)]) (g:=17) (fs := #[]) (pc := #[.pointer (some ⟨b2,0,none⟩),.pointer (some ⟨b3,0,none⟩),.pointer (some ⟨b6,0,none⟩)]) rfl hent hr1 ?_).mono ?_
    . rintro e' W ⟨c,rfl,⟨c0,hc0,rfl⟩,hbel⟩
      refine ⟨?_,.inr ⟨T,c0,by rcases q3 with h|h<;>simp [h.1],hc0,rfl⟩⟩
      rw [hbel.block _ (by omega)]
      exact heap_new1 w _
    . rintro e' w' ⟨e0,W,⟨c,rfl,⟨c0,hc0,rfl⟩,hbel⟩,hfrA,hend⟩
      have he':e' = .returned (.int .i64 e):=by
        rcases hend with ⟨⟨u,hu⟩,_⟩|⟨c',hc',rfl⟩|⟨c',hc',rfl⟩
        . cases hu
        . cases hc'
          rcases q3 with ⟨_,rfl⟩|⟨h,_⟩
          . rfl
          . cases h
        . cases hc'
          rcases q3 with ⟨h,_⟩|⟨_,rfl⟩
          . cases h
          . rfl
      have hbW:Below w.heap.size w W:=hB1.trans ⟨hbel.os,hbel.tape,hbel.output,hbel.size,fun k hk=>hbel.block k (by omega)⟩
      have hszW:w.heap.size<W.heap.size:=by have:=hbel.size;omega
      have hb2:Below w.heap.size w w':=⟨by rw [hfrA.os,hbW.os],by rw [hfrA.tape,hbW.tape],by rw [hfrA.output,hbW.output],by have:=hfrA.size;omega,fun k hk=>by rw [hfrA.block k ⟨by omega,by omega⟩,hbW.block k hk]⟩
      exact ⟨he',hfr.trans (Fr.below hb2 hg.room),M,hg.below hb2⟩
end Go.V
namespace Go.V
open Go.Proofs
noncomputable def specs6n:List Spec:=[sp88]
def hints6n:List (Nat×List Nat):=[]
noncomputable def F6n (N:Nat) (x:((List Int)×((List Int)×Unit))):Out ((List (Int×(Int×Unit)))×(Int×Unit)) :=
  match f88 (x.1,()) with
  | .ret r_1 =>
    match (!r_1) with
    | true =>
      .ret (([]:List (Int×(Int×Unit))),((2:Int),()))
    | false =>
      match f88 (x.2.1,()) with
      | .ret r_3 =>
        match (!r_3) with
        | true =>
          .ret (([]:List (Int×(Int×Unit))),((2:Int),()))
        | false =>
          match ((lenI x.1) != (lenI x.2.1)) with
          | true =>
            .ret (([]:List (Int×(Int×Unit))),((2:Int),()))
          | false =>
            match f18n (x.1,(x.2.1,())) with
            | .ret r_5 =>
              .ret (r_5,((0:Int),()))
            | .pan p_6 =>
              match errOut p_6 with
              | .ret e_7 =>
                match (e_7 != (0:Int)) with
                | true =>
                  .ret (([]:List (Int×(Int×Unit))),(e_7,()))
                | false =>
                  .ret (([]:List (Int×(Int×Unit))),((0:Int),()))
              | .pan _=>.fail
              | .fail=>.fail
            | .fail=>.fail
      | .pan p_4 =>
        .pan p_4
      | .fail=>.fail
  | .pan p_2 =>
    .pan p_2
  | .fail=>.fail
theorem e6n (N:Nat) (x:((List Int)×((List Int)×Unit))):vfnCut Try.prog (phi specs6n) hints6n N gE [1,1,1,0,0] Try.f6 true false (.prod (.list (.int .i64)) (.prod (.list (.int .i64)) .unit)) (.prod (.list (.prod (.int .i64) (.prod (.int .i64) .unit))) (.prod (.int .i64) .unit)) x=F6n N x:=by
  kernel_rfl
noncomputable def f6n (x:((List Int)×((List Int)×Unit))):Out ((List (Int×(Int×Unit)))×(Int×Unit)):=F6n fuel x
noncomputable def sp6n:Spec:=⟨6,.call,(.prod (.list (.int .i64)) (.prod (.list (.int .i64)) .unit)),(.prod (.list (.prod (.int .i64) (.prod (.int .i64) .unit))) (.prod (.int .i64) .unit)),true,false,f6n⟩
theorem c6n:Contract Try.prog sp6n:=contract_cut (l:=specs6n) (arg:=(.prod (.list (.int .i64)) (.prod (.list (.int .i64)) .unit))) (res:=(.prod (.list (.prod (.int .i64) (.prod (.int .i64) .unit))) (.prod (.int .i64) .unit))) (multi:=true) (own:=false) (F:=f6n) mixed (all_cons c88 all_nil) (c:=bodyOf Try.f6) (r:=.region 4 regE false) Try.func6 (by kernel_rfl) (g:=gE) (path:=[1,1,1,0,0]) (by kernel_rfl) regE_ok hints6n fun x _=>⟨fuel,e6n fuel x⟩
end Go.V
namespace Go.V
open Go.Proofs
noncomputable def specs3n:List Spec:=[sp9v,sp4n,sp6n,sp12]
def hints3n:List (Nat×List Nat):=[(7,[0,1,5,7])]
noncomputable def L3n_0 (N:Nat) (n_L3n_0:Nat) (x:((List Int)×((List Int)×Unit))) (r_15:((List (Int×(Int×Unit)))×(Int×Unit))) (i_19:Int):Out Bool :=
  vloop Try.prog (phi specs3n) hints3n N Try.f3 false false .bool [.at 1,.at 1,.at 1,.at 1,.at 0,.at 1,.at 0] n_L3n_0 [.d (.list (.int .i64)) x.1,.d (.list (.int .i64)) x.2.1,.und,.und,.und,.d (.list (.prod (.int .i64) (.prod (.int .i64) .unit))) r_15.1,.und,.d (.int .i64) i_19,.und,.und,.und,.und,.und,.und,.und,.und,.und,.und,.und,.und,.und,.und,.und,.und,.und,.und,.und,.und,.und,.und,.und,.und,.und,.und,.und,.und,.und,.und,.und,.und,.und,.und,.und,.und,.und,.und,.und,.und,.und,.und,.und,.und,.und,.und,.und,.und,.und,.und,.und,.und,.und,.und,.und,.und,.und,.und,.und,.und,.und,.und,.und,.und,.und,.und,.und,.und,.und,.und,.und,.und,.und,.und,.und,.und,.und,.und,.und,.und,.und,.und,.und,.und,.und,.und,.und,.und,.und,.und,.und,.und,.und,.und,.und,.und,.und,.und,.und,.und,.und,.und,.und,.und,.und,.und,.und,.und,.und,.und,.und,.und,.und,.und,.und,.und,.und,.und,.und,.und,.und,.und,.und,.und,.und,.und,.und,.und,.und,.und,.und,.und,.und,.und,.und,.und,.und,.und,.und,.und,.und,.und]
theorem L3n_0_succ (N:Nat) (n_L3n_0:Nat) (x:((List Int)×((List Int)×Unit))) (r_15:((List (Int×(Int×Unit)))×(Int×Unit))) (i_19:Int):L3n_0 N  (n_L3n_0+1) x r_15 i_19 =
    (
    match (decide (i_19<(lenI r_15.1))) with
    | true =>
      bif (inb i_19 r_15.1.length) then
        match (decide (((List.getD r_15.1 i_19.toNat ((0:Int),((0:Int),())))).1<(0:Int))) with
        | true =>
          .ret false
        | false =>
          match (decide (((List.getD r_15.1 i_19.toNat ((0:Int),((0:Int),())))).1 >= (lenI x.1))) with
          | true =>
            .ret false
          | false =>
            match (decide (i_19 > (0:Int))) with
            | true =>
              bif (inb (IntKind.i64.wrap (i_19 - (1:Int))) r_15.1.length) then
                match (decide (((List.getD r_15.1 i_19.toNat ((0:Int),((0:Int),())))).1<=((List.getD r_15.1 (IntKind.i64.wrap (i_19 - (1:Int))).toNat ((0:Int),((0:Int),())))).1)) with
                | true =>
                  .ret false
                | false =>
                  bif (inb i_19 r_15.1.length) then
                    match (((List.getD r_15.1 i_19.toNat ((0:Int),((0:Int),())))).2.1==(1:Int)) with
                    | true =>
                      bif (inb ((List.getD r_15.1 i_19.toNat ((0:Int),((0:Int),())))).1 x.1.length) then
                        bif (inb ((List.getD r_15.1 i_19.toNat ((0:Int),((0:Int),())))).1 x.2.1.length) then
                          match f12 ((IntKind.i64.wrap ((List.getD x.1 ((List.getD r_15.1 i_19.toNat ((0:Int),((0:Int),())))).1.toNat (0:Int)) - (List.getD x.2.1 ((List.getD r_15.1 i_19.toNat ((0:Int),((0:Int),())))).1.toNat (0:Int)))),((9:Int),((1:Int),()))) with
                          | .ret r_20 =>
                            bif (inb ((List.getD r_15.1 i_19.toNat ((0:Int),((0:Int),())))).1 x.1.length) then
                              bif (inb ((List.getD r_15.1 i_19.toNat ((0:Int),((0:Int),())))).1 x.2.1.length) then
                                match f12 ((IntKind.i64.wrap ((List.getD x.1 ((List.getD r_15.1 i_19.toNat ((0:Int),((0:Int),())))).1.toNat (0:Int)) - (List.getD x.2.1 ((List.getD r_15.1 i_19.toNat ((0:Int),((0:Int),())))).1.toNat (0:Int)))),((9:Int),((2:Int),()))) with
                                | .ret r_22 =>
                                  match (!r_20.2.1) with
                                  | true =>
                                    .ret false
                                  | false =>
                                    match (!r_22.2.1) with
                                    | true =>
                                      .ret false
                                    | false =>
                                      match (r_20.1 != r_22.1) with
                                      | true =>
                                        .ret false
                                      | false =>
                                        match (r_20.1==(0:Int)) with
                                        | true =>
                                          .ret false
                                        | false =>
                                          L3n_0 N n_L3n_0 x r_15 (IntKind.i64.wrap (i_19+(1:Int)))
                                | .pan p_23 =>
                                  .pan p_23
                                | .fail=>.fail
                              else .fail
                            else .fail
                          | .pan p_21 =>
                            .pan p_21
                          | .fail=>.fail
                        else .fail
                      else .fail
                    | false =>
                      match (((List.getD r_15.1 i_19.toNat ((0:Int),((0:Int),())))).2.1==(2:Int)) with
                      | true =>
                        bif (inb ((List.getD r_15.1 i_19.toNat ((0:Int),((0:Int),())))).1 x.1.length) then
                          bif (inb ((List.getD r_15.1 i_19.toNat ((0:Int),((0:Int),())))).1 x.2.1.length) then
                            match f12 ((IntKind.i64.wrap ((List.getD x.1 ((List.getD r_15.1 i_19.toNat ((0:Int),((0:Int),())))).1.toNat (0:Int)) - (List.getD x.2.1 ((List.getD r_15.1 i_19.toNat ((0:Int),((0:Int),())))).1.toNat (0:Int)))),((10:Int),((1:Int),()))) with
                            | .ret r_24 =>
                              bif (inb ((List.getD r_15.1 i_19.toNat ((0:Int),((0:Int),())))).1 x.1.length) then
                                bif (inb ((List.getD r_15.1 i_19.toNat ((0:Int),((0:Int),())))).1 x.2.1.length) then
                                  match f12 ((IntKind.i64.wrap ((List.getD x.1 ((List.getD r_15.1 i_19.toNat ((0:Int),((0:Int),())))).1.toNat (0:Int)) - (List.getD x.2.1 ((List.getD r_15.1 i_19.toNat ((0:Int),((0:Int),())))).1.toNat (0:Int)))),((10:Int),((2:Int),()))) with
                                  | .ret r_26 =>
                                    match (!r_24.2.1) with
                                    | true =>
                                      .ret false
                                    | false =>
                                      match (!r_26.2.1) with
                                      | true =>
                                        .ret false
                                      | false =>
                                        match (r_24.1 != r_26.1) with
                                        | true =>
                                          .ret false
                                        | false =>
                                          match (r_24.1==(0:Int)) with
                                          | true =>
                                            .ret false
                                          | false =>
                                            L3n_0 N n_L3n_0 x r_15 (IntKind.i64.wrap (i_19+(1:Int)))
                                  | .pan p_27 =>
                                    .pan p_27
                                  | .fail=>.fail
                                else .fail
                              else .fail
                            | .pan p_25 =>
                              .pan p_25
                            | .fail=>.fail
                          else .fail
                        else .fail
                      | false =>
                        match (((List.getD r_15.1 i_19.toNat ((0:Int),((0:Int),())))).2.1==(3:Int)) with
                        | true =>
                          bif (inb ((List.getD r_15.1 i_19.toNat ((0:Int),((0:Int),())))).1 x.1.length) then
                            bif (inb ((List.getD r_15.1 i_19.toNat ((0:Int),((0:Int),())))).1 x.2.1.length) then
                              match f12 ((IntKind.i64.wrap ((List.getD x.1 ((List.getD r_15.1 i_19.toNat ((0:Int),((0:Int),())))).1.toNat (0:Int)) - (List.getD x.2.1 ((List.getD r_15.1 i_19.toNat ((0:Int),((0:Int),())))).1.toNat (0:Int)))),((2:Int),((1:Int),()))) with
                              | .ret r_28 =>
                                bif (inb ((List.getD r_15.1 i_19.toNat ((0:Int),((0:Int),())))).1 x.1.length) then
                                  bif (inb ((List.getD r_15.1 i_19.toNat ((0:Int),((0:Int),())))).1 x.2.1.length) then
                                    match f12 ((IntKind.i64.wrap ((List.getD x.1 ((List.getD r_15.1 i_19.toNat ((0:Int),((0:Int),())))).1.toNat (0:Int)) - (List.getD x.2.1 ((List.getD r_15.1 i_19.toNat ((0:Int),((0:Int),())))).1.toNat (0:Int)))),((2:Int),((2:Int),()))) with
                                    | .ret r_30 =>
                                      match (!r_28.2.1) with
                                      | true =>
                                        .ret false
                                      | false =>
                                        match (!r_30.2.1) with
                                        | true =>
                                          .ret false
                                        | false =>
                                          match (r_28.1 != r_30.1) with
                                          | true =>
                                            .ret false
                                          | false =>
                                            match (r_28.1==(0:Int)) with
                                            | true =>
                                              .ret false
                                            | false =>
                                              L3n_0 N n_L3n_0 x r_15 (IntKind.i64.wrap (i_19+(1:Int)))
                                    | .pan p_31 =>
                                      .pan p_31
                                    | .fail=>.fail
                                  else .fail
                                else .fail
                              | .pan p_29 =>
                                .pan p_29
                              | .fail=>.fail
                            else .fail
                          else .fail
                        | false =>
                          match (((List.getD r_15.1 i_19.toNat ((0:Int),((0:Int),())))).2.1==(4:Int)) with
                          | true =>
                            bif (inb ((List.getD r_15.1 i_19.toNat ((0:Int),((0:Int),())))).1 x.1.length) then
                              bif (inb ((List.getD r_15.1 i_19.toNat ((0:Int),((0:Int),())))).1 x.2.1.length) then
                                match f12 ((IntKind.i64.wrap ((List.getD x.1 ((List.getD r_15.1 i_19.toNat ((0:Int),((0:Int),())))).1.toNat (0:Int)) - (List.getD x.2.1 ((List.getD r_15.1 i_19.toNat ((0:Int),((0:Int),())))).1.toNat (0:Int)))),((1:Int),((1:Int),()))) with
                                | .ret r_32 =>
                                  bif (inb ((List.getD r_15.1 i_19.toNat ((0:Int),((0:Int),())))).1 x.1.length) then
                                    bif (inb ((List.getD r_15.1 i_19.toNat ((0:Int),((0:Int),())))).1 x.2.1.length) then
                                      match f12 ((IntKind.i64.wrap ((List.getD x.1 ((List.getD r_15.1 i_19.toNat ((0:Int),((0:Int),())))).1.toNat (0:Int)) - (List.getD x.2.1 ((List.getD r_15.1 i_19.toNat ((0:Int),((0:Int),())))).1.toNat (0:Int)))),((1:Int),((2:Int),()))) with
                                      | .ret r_34 =>
                                        match (!r_32.2.1) with
                                        | true =>
                                          .ret false
                                        | false =>
                                          match (!r_34.2.1) with
                                          | true =>
                                            .ret false
                                          | false =>
                                            match (r_32.1 != r_34.1) with
                                            | true =>
                                              .ret false
                                            | false =>
                                              match (r_32.1==(0:Int)) with
                                              | true =>
                                                .ret false
                                              | false =>
                                                L3n_0 N n_L3n_0 x r_15 (IntKind.i64.wrap (i_19+(1:Int)))
                                      | .pan p_35 =>
                                        .pan p_35
                                      | .fail=>.fail
                                    else .fail
                                  else .fail
                                | .pan p_33 =>
                                  .pan p_33
                                | .fail=>.fail
                              else .fail
                            else .fail
                          | false =>
                            .ret false
                  else .fail
              else .fail
            | false =>
              bif (inb i_19 r_15.1.length) then
                match (((List.getD r_15.1 i_19.toNat ((0:Int),((0:Int),())))).2.1==(1:Int)) with
                | true =>
                  bif (inb ((List.getD r_15.1 i_19.toNat ((0:Int),((0:Int),())))).1 x.1.length) then
                    bif (inb ((List.getD r_15.1 i_19.toNat ((0:Int),((0:Int),())))).1 x.2.1.length) then
                      match f12 ((IntKind.i64.wrap ((List.getD x.1 ((List.getD r_15.1 i_19.toNat ((0:Int),((0:Int),())))).1.toNat (0:Int)) - (List.getD x.2.1 ((List.getD r_15.1 i_19.toNat ((0:Int),((0:Int),())))).1.toNat (0:Int)))),((9:Int),((1:Int),()))) with
                      | .ret r_36 =>
                        bif (inb ((List.getD r_15.1 i_19.toNat ((0:Int),((0:Int),())))).1 x.1.length) then
                          bif (inb ((List.getD r_15.1 i_19.toNat ((0:Int),((0:Int),())))).1 x.2.1.length) then
                            match f12 ((IntKind.i64.wrap ((List.getD x.1 ((List.getD r_15.1 i_19.toNat ((0:Int),((0:Int),())))).1.toNat (0:Int)) - (List.getD x.2.1 ((List.getD r_15.1 i_19.toNat ((0:Int),((0:Int),())))).1.toNat (0:Int)))),((9:Int),((2:Int),()))) with
                            | .ret r_38 =>
                              match (!r_36.2.1) with
                              | true =>
                                .ret false
                              | false =>
                                match (!r_38.2.1) with
                                | true =>
                                  .ret false
                                | false =>
                                  match (r_36.1 != r_38.1) with
                                  | true =>
                                    .ret false
                                  | false =>
                                    match (r_36.1==(0:Int)) with
                                    | true =>
                                      .ret false
                                    | false =>
                                      L3n_0 N n_L3n_0 x r_15 (IntKind.i64.wrap (i_19+(1:Int)))
                            | .pan p_39 =>
                              .pan p_39
                            | .fail=>.fail
                          else .fail
                        else .fail
                      | .pan p_37 =>
                        .pan p_37
                      | .fail=>.fail
                    else .fail
                  else .fail
                | false =>
                  match (((List.getD r_15.1 i_19.toNat ((0:Int),((0:Int),())))).2.1==(2:Int)) with
                  | true =>
                    bif (inb ((List.getD r_15.1 i_19.toNat ((0:Int),((0:Int),())))).1 x.1.length) then
                      bif (inb ((List.getD r_15.1 i_19.toNat ((0:Int),((0:Int),())))).1 x.2.1.length) then
                        match f12 ((IntKind.i64.wrap ((List.getD x.1 ((List.getD r_15.1 i_19.toNat ((0:Int),((0:Int),())))).1.toNat (0:Int)) - (List.getD x.2.1 ((List.getD r_15.1 i_19.toNat ((0:Int),((0:Int),())))).1.toNat (0:Int)))),((10:Int),((1:Int),()))) with
                        | .ret r_40 =>
                          bif (inb ((List.getD r_15.1 i_19.toNat ((0:Int),((0:Int),())))).1 x.1.length) then
                            bif (inb ((List.getD r_15.1 i_19.toNat ((0:Int),((0:Int),())))).1 x.2.1.length) then
                              match f12 ((IntKind.i64.wrap ((List.getD x.1 ((List.getD r_15.1 i_19.toNat ((0:Int),((0:Int),())))).1.toNat (0:Int)) - (List.getD x.2.1 ((List.getD r_15.1 i_19.toNat ((0:Int),((0:Int),())))).1.toNat (0:Int)))),((10:Int),((2:Int),()))) with
                              | .ret r_42 =>
                                match (!r_40.2.1) with
                                | true =>
                                  .ret false
                                | false =>
                                  match (!r_42.2.1) with
                                  | true =>
                                    .ret false
                                  | false =>
                                    match (r_40.1 != r_42.1) with
                                    | true =>
                                      .ret false
                                    | false =>
                                      match (r_40.1==(0:Int)) with
                                      | true =>
                                        .ret false
                                      | false =>
                                        L3n_0 N n_L3n_0 x r_15 (IntKind.i64.wrap (i_19+(1:Int)))
                              | .pan p_43 =>
                                .pan p_43
                              | .fail=>.fail
                            else .fail
                          else .fail
                        | .pan p_41 =>
                          .pan p_41
                        | .fail=>.fail
                      else .fail
                    else .fail
                  | false =>
                    match (((List.getD r_15.1 i_19.toNat ((0:Int),((0:Int),())))).2.1==(3:Int)) with
                    | true =>
                      bif (inb ((List.getD r_15.1 i_19.toNat ((0:Int),((0:Int),())))).1 x.1.length) then
                        bif (inb ((List.getD r_15.1 i_19.toNat ((0:Int),((0:Int),())))).1 x.2.1.length) then
                          match f12 ((IntKind.i64.wrap ((List.getD x.1 ((List.getD r_15.1 i_19.toNat ((0:Int),((0:Int),())))).1.toNat (0:Int)) - (List.getD x.2.1 ((List.getD r_15.1 i_19.toNat ((0:Int),((0:Int),())))).1.toNat (0:Int)))),((2:Int),((1:Int),()))) with
                          | .ret r_44 =>
                            bif (inb ((List.getD r_15.1 i_19.toNat ((0:Int),((0:Int),())))).1 x.1.length) then
                              bif (inb ((List.getD r_15.1 i_19.toNat ((0:Int),((0:Int),())))).1 x.2.1.length) then
                                match f12 ((IntKind.i64.wrap ((List.getD x.1 ((List.getD r_15.1 i_19.toNat ((0:Int),((0:Int),())))).1.toNat (0:Int)) - (List.getD x.2.1 ((List.getD r_15.1 i_19.toNat ((0:Int),((0:Int),())))).1.toNat (0:Int)))),((2:Int),((2:Int),()))) with
                                | .ret r_46 =>
                                  match (!r_44.2.1) with
                                  | true =>
                                    .ret false
                                  | false =>
                                    match (!r_46.2.1) with
                                    | true =>
                                      .ret false
                                    | false =>
                                      match (r_44.1 != r_46.1) with
                                      | true =>
                                        .ret false
                                      | false =>
                                        match (r_44.1==(0:Int)) with
                                        | true =>
                                          .ret false
                                        | false =>
                                          L3n_0 N n_L3n_0 x r_15 (IntKind.i64.wrap (i_19+(1:Int)))
                                | .pan p_47 =>
                                  .pan p_47
                                | .fail=>.fail
                              else .fail
                            else .fail
                          | .pan p_45 =>
                            .pan p_45
                          | .fail=>.fail
                        else .fail
                      else .fail
                    | false =>
                      match (((List.getD r_15.1 i_19.toNat ((0:Int),((0:Int),())))).2.1==(4:Int)) with
                      | true =>
                        bif (inb ((List.getD r_15.1 i_19.toNat ((0:Int),((0:Int),())))).1 x.1.length) then
                          bif (inb ((List.getD r_15.1 i_19.toNat ((0:Int),((0:Int),())))).1 x.2.1.length) then
                            match f12 ((IntKind.i64.wrap ((List.getD x.1 ((List.getD r_15.1 i_19.toNat ((0:Int),((0:Int),())))).1.toNat (0:Int)) - (List.getD x.2.1 ((List.getD r_15.1 i_19.toNat ((0:Int),((0:Int),())))).1.toNat (0:Int)))),((1:Int),((1:Int),()))) with
                            | .ret r_48 =>
                              bif (inb ((List.getD r_15.1 i_19.toNat ((0:Int),((0:Int),())))).1 x.1.length) then
                                bif (inb ((List.getD r_15.1 i_19.toNat ((0:Int),((0:Int),())))).1 x.2.1.length) then
                                  match f12 ((IntKind.i64.wrap ((List.getD x.1 ((List.getD r_15.1 i_19.toNat ((0:Int),((0:Int),())))).1.toNat (0:Int)) - (List.getD x.2.1 ((List.getD r_15.1 i_19.toNat ((0:Int),((0:Int),())))).1.toNat (0:Int)))),((1:Int),((2:Int),()))) with
                                  | .ret r_50 =>
                                    match (!r_48.2.1) with
                                    | true =>
                                      .ret false
                                    | false =>
                                      match (!r_50.2.1) with
                                      | true =>
                                        .ret false
                                      | false =>
                                        match (r_48.1 != r_50.1) with
                                        | true =>
                                          .ret false
                                        | false =>
                                          match (r_48.1==(0:Int)) with
                                          | true =>
                                            .ret false
                                          | false =>
                                            L3n_0 N n_L3n_0 x r_15 (IntKind.i64.wrap (i_19+(1:Int)))
                                  | .pan p_51 =>
                                    .pan p_51
                                  | .fail=>.fail
                                else .fail
                              else .fail
                            | .pan p_49 =>
                              .pan p_49
                            | .fail=>.fail
                          else .fail
                        else .fail
                      | false =>
                        .ret false
              else .fail
      else .fail
    | false =>
      match f9v () with
      | .ret r_52 =>
        .ret r_52
      | .pan p_53 =>
        .pan p_53
      | .fail=>.fail:Out Bool):=by
  kernel_rfl
noncomputable def F3n (N:Nat) (x:((List Int)×((List Int)×Unit))):Out Bool :=
  match (decide ((lenI x.1) > (8:Int))) with
  | true =>
    match f9v () with
    | .ret r_1 =>
      .ret r_1
    | .pan p_2 =>
      .pan p_2
    | .fail=>.fail
  | false =>
    match (decide ((lenI x.2.1) > (8:Int))) with
    | true =>
      match f9v () with
      | .ret r_3 =>
        .ret r_3
      | .pan p_4 =>
        .pan p_4
      | .fail=>.fail
    | false =>
      match f4n (x.1,()) with
      | .ret r_5 =>
        match (!r_5) with
        | true =>
          match f9v () with
          | .ret r_7 =>
            .ret r_7
          | .pan p_8 =>
            .pan p_8
          | .fail=>.fail
        | false =>
          match f4n (x.2.1,()) with
          | .ret r_9 =>
            match (!r_9) with
            | true =>
              match f9v () with
              | .ret r_11 =>
                .ret r_11
              | .pan p_12 =>
                .pan p_12
              | .fail=>.fail
            | false =>
              match ((lenI x.1) != (lenI x.2.1)) with
              | true =>
                match f9v () with
                | .ret r_13 =>
                  .ret r_13
                | .pan p_14 =>
                  .pan p_14
                | .fail=>.fail
              | false =>
                match f6n (x.1,(x.2.1,())) with
                | .ret r_15 =>
                  match (r_15.2.1 != (0:Int)) with
                  | true =>
                    match (r_15.2.1==(5:Int)) with
                    | true =>
                      match ((lenI r_15.1)==(0:Int)) with
                      | true =>
                        match f9v () with
                        | .ret r_17 =>
                          .ret r_17
                        | .pan p_18 =>
                          .pan p_18
                        | .fail=>.fail
                      | false =>
                        .ret false
                    | false =>
                      .ret false
                  | false =>
                    L3n_0 N N x r_15 (0:Int)
                | .pan p_16 =>
                  .pan p_16
                | .fail=>.fail
          | .pan p_10 =>
            .pan p_10
          | .fail=>.fail
      | .pan p_6 =>
        .pan p_6
      | .fail=>.fail
theorem e3n (N:Nat) (x:((List Int)×((List Int)×Unit))):vfn Try.prog (phi specs3n) hints3n N Try.f3 false false (.prod (.list (.int .i64)) (.prod (.list (.int .i64)) .unit)) .bool x=F3n N x:=by
  kernel_rfl
noncomputable def f3n (x:((List Int)×((List Int)×Unit))):Out Bool:=F3n fuel x
noncomputable def sp3n:Spec:=⟨3,.call,(.prod (.list (.int .i64)) (.prod (.list (.int .i64)) .unit)),.bool,false,false,f3n⟩
theorem c3n:Contract Try.prog sp3n:=contract_at (l:=specs3n) (arg:=(.prod (.list (.int .i64)) (.prod (.list (.int .i64)) .unit))) (res:=.bool) (multi:=false) (own:=false) (F:=f3n) mixed (all_cons c9v (all_cons c4n (all_cons c6n (all_cons c12 all_nil)))) Try.func3 rfl hints3n fun x _=>⟨fuel,e3n fuel x⟩
end Go.V
