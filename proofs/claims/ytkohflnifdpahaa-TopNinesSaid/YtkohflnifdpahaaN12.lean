/- A part of the proof of TopNinesSaid: no condition beyond what each theorem says. -/
import Derived.Test.YtkohflnifdpahaaN09
import Derived.Test.YtkohflnifdpahaaShelf
set_option linter.all false
namespace Go.V
open Go.Proofs
open Go.RowKit (Below)
theorem contract_ret {P:Program} [Inv P] {sp:Spec} (hk:sp.kind = .call) (hp:∀ x p,sp.f x ≠ .pan p)
    (h:∀ (x:sp.arg.den) (M:Mut) (w:World) (vs:Array Value) r,sp.f x = .ret r->Inv.I P w->RepT M w sp.arg vs.toList x->(∀ b o,M b o->b<w.heap.size) ->
      Calls P sp.fn vs w fun e w'=>∃ v,e = .returned v/\Below w.heap.size w w'/\ResOK M w w' sp.multi sp.own sp.res v r):Contract P sp:=by
  unfold Contract
  rw [hk]
  intro x M w vs hI hvs hlt
  cases hx:sp.f x with
  | ret r=>exact h x M w vs r hx hI hvs hlt
  | pan p=>exact absurd hx (hp x p)
  | fail=>trivial
theorem bif_ret {α:Type} {c:Bool} {x r:α} (h:(bif c then Out.ret x else .fail) = .ret r):c=true/\x=r:=by
  cases c with
  | true=>exact ⟨rfl,by cases h;rfl⟩
  | false=>cases h
theorem bif_pan {α:Type} {c:Bool} {x:α} (p:Value):(bif c then Out.ret x else .fail) ≠ .pan p:=by
  cases c<;>intro h<;>cases h
theorem cellsAt_one {M:Mut} {w:World} {b o:Nat} {v:Value} (h:CellsAt M w b o [v]):w.cell? ⟨b,o,none⟩=some v:=(h 0 (by simp)).1
theorem list_one {M:Mut} {w:World} {e:Ty} {v:Value} {cs:List Value} {xs:List e.den} (h:v=toVal (.list e) cs) (h2:RepC M w (.list e) cs xs):RepC M w (.list e) [v] xs:=by
  have h3:=h2
  obtain ⟨a,cap,e1,_,_⟩:=h3
  subst e1
  subst h
  exact h2
theorem list_ints {M:Mut} {w:World} {v:Value} {xs:List Int} (h:RepC M w (.list (.int .i64)) [v] xs):∃ a c,v = .slice a xs.length c/\xs.length<=c /\
    ∀ (j:Nat) x,xs[j]? = some x->∃ b o,a=some ⟨b,o,none⟩/\w.cell? ⟨b,o+j,none⟩=some (.int .i64 x):=by
  obtain ⟨a,cap,e,hle,h3⟩:=h
  cases e
  refine ⟨a,cap,rfl,hle,fun j x hx=>?_⟩
  obtain ⟨hj,hx'⟩:=List.getElem?_eq_some_iff.1 hx
  obtain ⟨b,o,ec,e1,e2,e3,e4⟩:=h3 j hj
  have e5:ec=[.int .i64 xs[j]]:=e4
  subst e5
  have:=cellsAt_one e3
  refine ⟨b,o,e1,?_⟩
  rw [hx'] at this
  simpa [Ty.size] using this
theorem row_ints {cur:Array Value} {xs:List Int} (htk:cur.toList.take (xs.length * 1)=xs.map (Value.int .i64)) {i:Nat} (hi:i<xs.length):cur[i]? = some (.int .i64 (xs[i])):=by
  have:=congrArg (·[i]?) htk
  simp only [Nat.mul_one] at this
  rw [List.getElem?_take_of_lt hi,List.getElem?_map,List.getElem?_eq_getElem hi] at this
  simpa using this
theorem row_drop {cur:Array Value} {i:Nat} {v:Value} (h:cur[i]? = some v):(cur.toList.drop (i * 1)).take 1=[v]:=by
  rw [Nat.mul_one]
  have h1:cur.toList[i]? = some v:=by simpa using h
  obtain ⟨hi,e⟩:=List.getElem?_eq_some_iff.1 h1
  rw [List.drop_eq_getElem_cons hi,List.take_succ_cons,List.take_zero,e]
theorem resOK_ints_arr {M:Mut} {w w':World} {v:Value} {xs:List Int} (hlt:∀ b o,M b o->b<w.heap.size) (h:w'.ownsRow w.heap.size 3 1 v xs.length (xs.map (Value.int .i64))):ResOK M w w' true true (.list (.int .i64)) v xs:=by
  obtain ⟨hl,h⟩:=h
  rcases h with ⟨rfl,h⟩|⟨g,cap,cur,rfl,hg,hc,hle,hmax,hsz,htk⟩
  . have:xs=[]:=List.eq_nil_of_length_eq_zero h
    subst this
    exact ⟨M,fun _ _ h=>h,fun _ _ h=>.inl h,.inl ⟨rfl,rfl⟩,fun b _ hb=>by simp [ownB] at hb⟩
  . have hglt:g<w'.heap.size:=(Array.getElem?_eq_some_iff.1 hc).1
    refine ⟨fun b o=>M b o\/b=g,fun _ _ h=>.inl h,fun b o h=>?_,.inr ⟨g,cap,cur,3,rfl,hc,hle,hmax,hsz,fun o=>.inr rfl,fun i hi=>?_⟩,fun b _ hb=>?_⟩
    . rcases h with h|rfl
      . exact .inl h
      . exact .inr ⟨hg,hglt⟩
    . exact row_drop (row_ints htk hi)
    . simp [ownB] at hb;subst hb;exact hg
theorem clone_calls {M:Mut} {w:World} {v:Value} {xs:List Int} (h:RepC M w (.list (.int .i64)) [v] xs) (hn:xs.length<1000000) :
    Calls Try.prog 63 #[v] w fun e w'=>∃ v',e = .returned v'/\w'.ownsRow w.heap.size 3 1 v' xs.length (xs.map (Value.int .i64))/\Below w.heap.size w w':=by
  obtain ⟨a,cap,rfl,hle,h3⟩:=list_ints h
  cases a with
  | none =>
    have hx:xs=[]:=by
      cases xs with
      | nil=>rfl
      | cons y ys=>obtain ⟨b,o,e1,_⟩:=h3 0 y rfl;cases e1
    subst hx
    refine (Try.slices_Clone_int_nil 0 cap w).mono ?_
    rintro e w' ⟨rfl,rfl⟩
    exact ⟨_,rfl,World.ownsRow_nil _ _ _ _,Below.refl _ _⟩
  | some a =>
    cases hx:xs with
    | nil =>
      refine (Try.slices_Clone_int_zero a cap w).mono ?_
      rintro e w' ⟨v',rfl,h1,_,h2⟩
      exact ⟨_,rfl,h1,h2⟩
    | cons y ys =>
      rw [<- hx]
      obtain ⟨b,o,e1,_⟩:=h3 0 y (by rw [hx];rfl)
      cases e1
      refine (Try.slices_Clone_int b o xs.length cap xs w (Nat.le_refl _) (by omega) fun j hj=>?_).mono ?_
      . obtain ⟨b',o',e1,e2⟩:=h3 j xs[j] (List.getElem?_eq_getElem hj)
        cases e1
        rw [List.getD_eq_getElem?_getD,List.getElem?_eq_getElem hj]
        exact e2
      . rintro e w' ⟨v',rfl,h1,_,h2⟩
        rw [List.take_length] at h1
        exact ⟨_,rfl,h1,h2⟩
noncomputable def f114 (x:List Int×Unit):Out (List Int):=bif decide (x.1.length<1000000) then .ret x.1 else .fail
noncomputable def sp114a:Spec:=⟨63,.call,.prod (.list (.int .i64)) .unit,.list (.int .i64),true,true,f114⟩
theorem clone_ok {x:List Int×Unit} {r:List Int} {M:Mut} {w:World} {vs:Array Value} {multi:Bool} (hr:f114 x = .ret r) (hvs:RepT M w (.prod (.list (.int .i64)) .unit) vs.toList x)
    (hres:∀ (w':World) v',w'.ownsRow w.heap.size 3 1 v' x.1.length (x.1.map (Value.int .i64))->ResOK M w w' multi true (.list (.int .i64)) v' x.1) :
    Calls Try.prog 63 vs w fun e w'=>∃ v,e = .returned v/\Below w.heap.size w w'/\ResOK M w w' multi true (.list (.int .i64)) v r:=by
  obtain ⟨h,rfl⟩:=bif_ret hr
  obtain ⟨v,rest,e1,⟨cs,e2,e3⟩,e4⟩:=hvs
  have e6:rest=[]:=e4
  subst e6
  have e3:RepC M w (.list (.int .i64)) [v] x.1:=list_one e2 e3
  have hvs':vs = #[v]:=by apply Array.ext';rw [e1]
  subst hvs'
  simp only [decide_eq_true_eq] at h
  refine (clone_calls e3 h).mono ?_
  rintro e w' ⟨v',rfl,h1,h2⟩
  exact ⟨v',rfl,h2,hres w' v' h1⟩
theorem c114a:Contract Try.prog sp114a:=contract_ret rfl (fun _ p=>bif_pan p) fun _ _ _ _ _ hr _ hvs hlt=>clone_ok hr hvs fun _ _ h=>resOK_ints_arr hlt h
end Go.V
