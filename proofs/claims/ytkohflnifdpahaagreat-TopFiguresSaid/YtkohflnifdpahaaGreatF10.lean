/- A part of the proof of TopFiguresSaid: no condition beyond what each theorem says. -/
import Derived.Test.YtkohflnifdpahaaGreatF09
import Derived.Test.YtkohflnifdpahaaGreatRows
import Derived.WalkKit
import Derived.ProofKit
import Derived.OpenShut
import Derived.Deep.Slices
import Derived.ChangeMaps5
import Derived.Carry
set_option linter.all false
namespace Go.V
open Go.Proofs Go.Proofs.YtkohflnifdpahaaGreat Go.ChangeShapes Go.WideShapes Go.ChangeAt Go.RowKit
def M0 : Mut := fun _ _ => False
def Fit (P : Program) : Ty → (TypeId → Prop) × (List Field → Nat → Prop)
  | .int k => (fun t => P.underlying t = some (.int k), fun _ _ => False)
  | .bool => (fun t => P.underlying t = some .bool, fun _ _ => False)
  | .str => (fun t => P.underlying t = some .string, fun _ _ => False)
  | .list e => (fun t => ∃ u, P.underlying t = some (.slice u) ∧ P.cellsOf u = e.size ∧ 0 < e.size ∧ (Fit P e).1 u, fun _ _ => False)
  | .unit => (fun _ => False, fun fs _ => fs = [])
  | .prod a b =>
    (fun t => ∃ fs : Array Field, P.underlying t = some (.struct fs) ∧ P.cellsOf t = a.size + b.size ∧ ∃ f rest, fs.toList = f :: rest ∧ f.offset = 0 ∧ P.cellsOf f.type = a.size ∧ (Fit P a).1 f.type ∧ (Fit P b).2 rest a.size,
     fun fs n => ∃ f rest, fs = f :: rest ∧ f.offset = n ∧ P.cellsOf f.type = a.size ∧ (Fit P a).1 f.type ∧ (Fit P b).2 rest (n + a.size))
  | _ => (fun _ => False, fun _ _ => False)
instance (t : Ty) : Inhabited t.den := ⟨t.zero⟩
section
variable {H : Type} {enc : TypeId × Value → H} {P : Program} {w : World} {base : Nat} {sp : Nat → Bool} {held : Bool}
theorem rowOf {a b : Ty} (ha : ∀ (tid : TypeId) (fuel : Nat) (cs : List Value) (x : DataW H × List MemPlace), (Fit P a).1 tid → DataW.trod enc P w base sp held fuel tid cs = some x → ∃ y : a.den, RepC M0 w a cs y)
    (hb : ∀ (fs : List Field) (n : Nat) (cs : List Value) (xs : List (DataW H × List MemPlace)) (fuel : Nat), (Fit P b).2 fs n → (fs.mapM fun f : Field => DataW.trod enc P w base sp held fuel f.type ((cs.drop f.offset).take (P.cellsOf f.type))) = some xs → cs.length = n + b.size → ∃ y : b.den, RepC M0 w b (cs.drop n) y)
    {f : Field} {rest : List Field} {n fuel : Nat} {cs : List Value} {xs : List (DataW H × List MemPlace)}
    (h1 : f.offset = n) (h2 : P.cellsOf f.type = a.size) (h3 : (Fit P a).1 f.type) (h4 : (Fit P b).2 rest (n + a.size))
    (h : ((f :: rest).mapM fun f : Field => DataW.trod enc P w base sp held fuel f.type ((cs.drop f.offset).take (P.cellsOf f.type))) = some xs) (hl : cs.length = n + (a.size + b.size)) :
    ∃ y : (Ty.prod a b).den, RepC M0 w (.prod a b) (cs.drop n) y := by
  rw [List.mapM_cons] at h
  obtain ⟨x, hx, h'⟩ := Option.bind_eq_some_iff.1 h
  obtain ⟨xs', hxs, _⟩ := Option.bind_eq_some_iff.1 h'
  obtain ⟨y1, r1⟩ := ha _ _ _ _ h3 hx
  obtain ⟨y2, r2⟩ := hb _ _ cs _ _ h4 hxs (by omega)
  rw [h1, h2] at r1
  refine ⟨(y1, y2), _, _, ?_, r1, r2⟩
  rw [← List.drop_drop, List.take_append_drop]
theorem opens : ∀ t : Ty,
    (∀ (tid : TypeId) (fuel : Nat) (cs : List Value) (x : DataW H × List MemPlace), (Fit P t).1 tid → DataW.trod enc P w base sp held fuel tid cs = some x → ∃ y : t.den, RepC M0 w t cs y) ∧
    (∀ (fs : List Field) (n : Nat) (cs : List Value) (xs : List (DataW H × List MemPlace)) (fuel : Nat), (Fit P t).2 fs n → (fs.mapM fun f : Field => DataW.trod enc P w base sp held fuel f.type ((cs.drop f.offset).take (P.cellsOf f.type))) = some xs → cs.length = n + t.size → ∃ y : t.den, RepC M0 w t (cs.drop n) y)
  | .int k => ⟨fun tid fuel cs x hf h => by
      obtain ⟨n, e, _⟩ := DataW.trod_int (k := k) hf h
      exact ⟨n, e⟩, fun _ _ _ _ _ hf => hf.elim⟩
  | .bool => ⟨fun tid fuel cs x hf h => by
      obtain ⟨b, e, _⟩ := DataW.trod_bool hf h
      exact ⟨b, e⟩, fun _ _ _ _ _ hf => hf.elim⟩
  | .str => ⟨fun tid fuel cs x hf h => by
      obtain ⟨s, e, _⟩ := DataW.trod_string hf h
      exact ⟨s.data.toList, e⟩, fun _ _ _ _ _ hf => hf.elim⟩
  | .list e => ⟨fun tid fuel cs x hf h => by
      obtain ⟨u, hu, hc, hpos, hfe⟩ := hf
      rcases Deep.open_slice hu h with ⟨rfl, _⟩ | ⟨a, len, cap, m, n, D, Pl, rfl, _, hle, _, hm, _, hx⟩
      · exact ⟨[], none, 0, rfl, Nat.le_refl _, fun i hi => absurd hi (Nat.not_lt_zero _)⟩
      · have hlm : len ≤ m := by rw [hm]; split <;> omega
        obtain ⟨Y, hY⟩ := Deep.choose_lt (α := e.den) (n := len) (p := fun i y => ∃ b o ec, some a = some (⟨b, o, none⟩ : Addr) ∧ ec.length = e.size ∧ CellsAt M0 w b (o + i * e.size) ec ∧ RepC M0 w e ec y) fun i hi => by
          obtain ⟨cs', c1, c2⟩ := hx i (by omega)
          obtain ⟨y, hy⟩ := (opens e).1 _ _ _ _ hfe c2
          obtain ⟨_, l1, l2⟩ := World.cells?_some c1
          rw [hc] at l1 l2
          have hsp : a.spot = none := by
            obtain ⟨cs0, c10, _⟩ := hx 0 (by omega)
            obtain ⟨_, l10, l20⟩ := World.cells?_some c10
            have q := l20 0 (by omega)
            rw [Nat.zero_mul] at q
            have hs : w.cell? a = cs0[0]? := q
            rw [List.getElem?_eq_getElem (by omega)] at hs
            unfold World.cell? at hs
            split at hs
            · split at hs
              · cases hs
              · next hn =>
                cases hh : a.spot with
                | none => rfl
                | some _ => exact absurd (by rw [hh]; rfl) hn
            · cases hs
          obtain ⟨ab, ao, asp⟩ := a
          cases hsp
          refine ⟨y, ab, ao, cs', rfl, l1, fun j hj => ⟨?_, fun h => h⟩, hy⟩
          have q := l2 j (by omega)
          rw [List.getElem?_eq_getElem hj] at q
          rw [← q]
          congr 1
          unfold Addr.add
          by_cases h1 : i * e.size = 0 <;> by_cases h2 : j = 0 <;> simp [h1, h2, Nat.add_assoc]
        refine ⟨(List.range len).map Y, some a, cap, by simp, by simpa using hle, fun i hi => ?_⟩
        have hi' : i < len := by simpa using hi
        obtain ⟨b, o, ec, q1, q2, q3, q4⟩ := hY i hi'
        exact ⟨b, o, ec, q1, q2, q3, by simpa using q4⟩, fun _ _ _ _ _ hf => hf.elim⟩
  | .unit => ⟨fun _ _ _ _ hf => hf.elim, fun fs n cs xs fuel hf h hl => ⟨(), by
      have : cs.drop n = [] := List.drop_eq_nil_of_le (by simp [Ty.size] at hl; omega)
      exact this⟩⟩
  | .prod a b => ⟨fun tid fuel cs x hf h => by
      obtain ⟨fs, hu, hc, f, rest, e1, e2, e3, e4, e5⟩ := hf
      obtain ⟨xs, n, hlen, hm⟩ : ∃ xs n, cs.length = P.cellsOf tid ∧ (fs.toList.mapM fun f : Field => DataW.trod enc P w base sp held n f.type ((cs.drop f.offset).take (P.cellsOf f.type))) = some xs := by
        cases fuel with
        | zero => simp [DataW.trod] at h
        | succ n =>
          simp only [DataW.trod, hu] at h
          split at h
          · next hl =>
            obtain ⟨xs, hx, _⟩ := Option.map_eq_some_iff.1 h
            exact ⟨xs, n, hl, hx⟩
          · cases h
      rw [e1] at hm
      have := rowOf (n := 0) (opens a).1 (opens b).2 e2 e3 e4 (by rw [Nat.zero_add]; exact e5) hm (by rw [hlen, hc]; omega)
      simpa using this,
    fun fs n cs xs fuel hf h hl => by
      obtain ⟨f, rest, rfl, e2, e3, e4, e5⟩ := hf
      exact rowOf (opens a).1 (opens b).2 e2 e3 e4 e5 h (by rw [hl]; rfl)⟩
  | .raw => ⟨fun _ _ _ _ hf => hf.elim, fun _ _ _ _ _ hf => hf.elim⟩
  | .opq => ⟨fun _ _ _ _ hf => hf.elim, fun _ _ _ _ _ hf => hf.elim⟩
  | .dyn _ _ => ⟨fun _ _ _ _ hf => hf.elim, fun _ _ _ _ _ hf => hf.elim⟩
  | .ptr _ => ⟨fun _ _ _ _ hf => hf.elim, fun _ _ _ _ _ hf => hf.elim⟩
  | .clo _ _ _ => ⟨fun _ _ _ _ hf => hf.elim, fun _ _ _ _ _ hf => hf.elim⟩
theorem open_arg {t : Ty} {tid : TypeId} {r : Reach} {b0 : Nat} {v : Value} {d : DataW H} {ps : List MemPlace} (hf : (Fit P t).1 tid) (hval : Value.okWide P w r b0 tid v) (h : DataW.Trod enc P w base sp held tid v d ps) :
    ∃ y : t.den, RepV M0 w t v y := by
  obtain ⟨fuel, h⟩ := h
  obtain ⟨y, hy⟩ := (opens t).1 _ _ _ _ hf h
  refine ⟨y, v.cells.toList, ?_, hy⟩
  cases t with
  | int k => obtain ⟨n, rfl⟩ := okWide_int (k := k) hf hval; rfl
  | bool => obtain ⟨n, rfl⟩ := okWide_bool hf hval; rfl
  | str => obtain ⟨n, rfl⟩ := okWide_string hf hval; rfl
  | list e => obtain ⟨u, hu, _⟩ := hf; obtain ⟨a, l, c, rfl⟩ := okWide_slice hu hval; rfl
  | prod a b => obtain ⟨fs, hu, _⟩ := hf; obtain ⟨cs, rfl, _⟩ := okWide_struct hu hval; rfl
  | unit => exact hf.elim
  | raw => exact hf.elim
  | opq => exact hf.elim
  | dyn _ _ => exact hf.elim
  | ptr _ => exact hf.elim
  | clo _ _ _ => exact hf.elim
def FitAll (P : Program) : Ty → List TypeId → Prop
  | .unit, ts => ts = []
  | .prod a b, ts => ∃ t rest, ts = t :: rest ∧ (Fit P a).1 t ∧ FitAll P b rest
  | _, _ => False
theorem open_all {r : Reach} {b0 : Nat} : ∀ (t : Ty) (ts : List TypeId) (vs : List Value) (ds : List (DataW H)) (ps : List MemPlace), FitAll P t ts →
    (∀ (j : Nat) t v, ts[j]? = some t → vs[j]? = some v → Value.okWide P w r b0 t v) → DataW.TrodAll enc P w base sp held ts vs ds ps → ∃ x : t.den, RepT M0 w t vs x
  | .unit, ts, vs, ds, ps, hf, _, h => by
    obtain rfl : ts = [] := hf
    obtain ⟨rfl, _⟩ := trodAll_nil h
    exact ⟨(), rfl⟩
  | .prod a b, ts, vs, ds, ps, hf, hv, h => by
    obtain ⟨t, rest, rfl, h1, h2⟩ := hf
    obtain ⟨v, vs', d, ds', p, q, rfl, rfl, rfl, hd, hrest⟩ := trodAll_cons h
    obtain ⟨y, hy⟩ := open_arg h1 (hv 0 t v rfl rfl) hd
    obtain ⟨z, hz⟩ := open_all b rest vs' ds' q h2 (fun j t v e1 e2 => hv (j + 1) t v (by simpa using e1) (by simpa using e2)) hrest
    exact ⟨(y, z), v, vs', rfl, hy, hz⟩
  | .int _, _, _, _, _, hf, _, _ => hf.elim
  | .bool, _, _, _, _, hf, _, _ => hf.elim
  | .str, _, _, _, _, hf, _, _ => hf.elim
  | .list _, _, _, _, _, hf, _, _ => hf.elim
  | .raw, _, _, _, _, hf, _, _ => hf.elim
  | .opq, _, _, _, _, hf, _, _ => hf.elim
  | .dyn _ _, _, _, _, _, hf, _, _ => hf.elim
  | .ptr _, _, _, _, _, hf, _, _ => hf.elim
  | .clo _ _ _, _, _, _, _, hf, _, _ => hf.elim
end
theorem all_behind {H : Type} {enc : TypeId × Value → H} {P : Program} {W W' : World} (hl : laidOutB P = true) (hb : Below W.heap.size W W') :
    ∀ (ts : List TypeId) (vs : List Value) (ds : List (DataW H)) (ps : List MemPlace), ts.all (fun t => P.readableRec t && decide (t < P.types.size)) = true →
      DataW.TrodAll enc P W 0 (fun _ => true) true ts vs ds ps → (∀ x ∈ ps, x.block < W.heap.size) → DataW.TrodAll enc P W' 0 (fun b => decide (b < W.heap.size)) true ts vs ds ps
  | [], vs, ds, ps, _, h, _ => by
    obtain ⟨rfl, rfl, rfl⟩ := trodAll_nil h
    exact trodAll_mk0
  | t :: ts, vs, ds, ps, ht, h, hlt => by
    obtain ⟨v, vs', d, ds', p, q, rfl, rfl, rfl, hd, hrest⟩ := trodAll_cons h
    rw [List.all_cons, Bool.and_eq_true, Bool.and_eq_true, decide_eq_true_eq] at ht
    exact trodAll_cons_mk (Below.trod hl ht.1.1 ht.1.2 hd hb fun x hx => hlt x (List.mem_append.2 (.inl hx)))
      (all_behind hl hb ts vs' ds' q ht.2 hrest fun x hx => hlt x (List.mem_append.2 (.inr hx)))
theorem says {f : Nat} {t : Ty} {F : t.den → Out Bool} (c : Contract Tryz.prog ⟨f, .call, t, .bool, false, false, F⟩) {x : t.den} (hx : F x = .ret true) {M : Mut} {W : World} {vs : Array Value} (hI : Inv.I Tryz.prog W) (hr : RepT M W t vs.toList x) (hlt : ∀ b o, M b o → b < W.heap.size) :
    Calls Tryz.prog f vs W fun e W' => e = .returned (.bool true) ∧ Below W.heap.size W W' := by
  have h := c x M W vs hI hr hlt
  dsimp only at h
  rw [hx] at h
  refine h.mono ?_
  rintro e W' ⟨v, rfl, hb, hres⟩
  refine ⟨?_, hb⟩
  obtain ⟨M', _, _, hs, _⟩ := hres
  have hs' : RepV M' W' .bool v true := hs
  obtain ⟨cs, e1, e2⟩ := hs'
  have e3 : cs = [.bool true] := e2
  subst e3
  rw [e1]; rfl
theorem own0 : ownKnob Tryz.prog.godebug = none := by kernel_rfl
theorem fitI : (Fit Tryz.prog (.int .i64)).1 3 := Tryz.underlying3
theorem fitL : (Fit Tryz.prog (.list (.int .i64))).1 29 := ⟨3, Tryz.underlying29, by kernel_rfl, by decide, fitI⟩
theorem fitP : (Fit Tryz.prog (.prod (.int .i64) (.prod (.int .i64) .unit))).1 45 :=
  ⟨_, Tryz.underlying45, by kernel_rfl, _, _, rfl, rfl, by kernel_rfl, fitI, _, _, rfl, rfl, by kernel_rfl, fitI, rfl⟩
theorem fitPs : (Fit Tryz.prog (.list (.prod (.int .i64) (.prod (.int .i64) .unit)))).1 38 := ⟨45, Tryz.underlying38, by kernel_rfl, by decide, fitP⟩
theorem fitT : (Fit Tryz.prog (.prod (.list (.prod (.int .i64) (.prod (.int .i64) .unit))) (.prod (.int .i64) (.prod (.int .i64) .unit)))).1 40 :=
  ⟨_, Tryz.underlying40, by kernel_rfl, _, _, rfl, rfl, by kernel_rfl, fitPs, _, _, rfl, rfl, by kernel_rfl, fitI, _, _, rfl, rfl, by kernel_rfl, fitI, rfl⟩
end Go.V
