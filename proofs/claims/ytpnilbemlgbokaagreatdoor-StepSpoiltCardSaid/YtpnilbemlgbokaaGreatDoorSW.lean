/- A part of the proof of a law of the step table. -/
import Derived.Test.YtpnilbemlgbokaaGreatDoorSV
set_option linter.all false
namespace Go.V
open Go.Proofs
open Go.RowKit (Below)
noncomputable def specs139 : List Spec := [sp140]
def hints139 : List (Nat × List Nat) := []
noncomputable def R139_0 (N : Nat) (ys_3 : List (List Int)) (x : ((Unit × (((List (Int × (Int × Unit))) × (Int × (Int × Unit))) × Unit)) × Unit)) (s_1 : (List (List Int))) : Out (List (List Int)) :=
  vrng Tryz.prog (phi specs139) hints139 N Tryz.f139 false false (.list (.list (.int .i64))) [.at 1, .at 0, .at 1, .at 0] (.list (.int .i64)) ys_3 [.nil, .d (.clo 140 .unit (.prod (.ptr (.prod (.list (.prod (.int .i64) (.prod (.int .i64) .unit))) (.prod (.int .i64) (.prod (.int .i64) .unit)))) .unit)) x.1, .box [.own (.list (.int .i64)) ([] : List (List Int)) false], .und, .d (.list (.list (.int .i64))) ([] : List (List Int)), .und, .d (.clo 140 .unit (.prod (.ptr (.prod (.list (.prod (.int .i64) (.prod (.int .i64) .unit))) (.prod (.int .i64) (.prod (.int .i64) .unit)))) .unit)) x.1, .und, .und, .und, .und, .und, .und] [.nil, .d (.clo 140 .unit (.prod (.ptr (.prod (.list (.prod (.int .i64) (.prod (.int .i64) .unit))) (.prod (.int .i64) (.prod (.int .i64) .unit)))) .unit)) x.1, .box [.own (.list (.int .i64)) s_1 false], .und, .d (.list (.list (.int .i64))) ([] : List (List Int)), .und, .d (.clo 140 .unit (.prod (.ptr (.prod (.list (.prod (.int .i64) (.prod (.int .i64) .unit))) (.prod (.int .i64) (.prod (.int .i64) .unit)))) .unit)) x.1, .und, .und, .und, .und, .und, .und]
theorem R139_0_nil (N : Nat) (x : ((Unit × (((List (Int × (Int × Unit))) × (Int × (Int × Unit))) × Unit)) × Unit)) (s_1 : (List (List Int))) : R139_0 N  [] x s_1 =
    (
    .ret s_1 : Out (List (List Int))) := by
  kernel_rfl
theorem R139_0_cons (N : Nat) (y_2 : (List Int)) (ys_3 : List (List Int)) (x : ((Unit × (((List (Int × (Int × Unit))) × (Int × (Int × Unit))) × Unit)) × Unit)) (s_1 : (List (List Int))) : R139_0 N  (y_2 :: ys_3) x s_1 =
    (
    bif (fits s_1 ([y_2] : List (List Int))) then
      R139_0 N ys_3 x (s_1 ++ ([y_2] : List (List Int)))
    else .fail : Out (List (List Int))) := by
  kernel_rfl
noncomputable def F139 (N : Nat) (x : ((Unit × (((List (Int × (Int × Unit))) × (Int × (Int × Unit))) × Unit)) × Unit)) : Out (List (List Int)) :=
  match f140 x.1 with
  | .ret r_4 =>
    R139_0 N r_4 x ([] : List (List Int))
  | .pan p_5 =>
    .fail
  | .fail => .fail
def vnil (P : Program) (Φ : Nat → List Spec) (hints : List (Nat × List Nat)) (N : Nat) (f : Func) (multi own : Bool) (a t : Ty) (x : a.den) : Out t.den :=
  vbody P Φ hints N (bodyOf f) f.results.toList multi own t (.nil :: st0 (f.ntmps - 1) a x)
noncomputable def st139 (x : Unit × (ST × Unit)) : St := [.nil, .d (.clo 140 .unit (.prod (.ptr STAB) .unit)) x, .box [.own (.list (.int .i64)) [] false], .und, .d (.list (.list (.int .i64))) [], .und, .d (.clo 140 .unit (.prod (.ptr STAB) .unit)) x, .und, .und, .und, .und, .und, .und]
theorem e139a (N : Nat) (x : ((Unit × (((List (Int × (Int × Unit))) × (Int × (Int × Unit))) × Unit)) × Unit)) (r : List (List Int)) : R139_0 N r x [] = vrng Tryz.prog (phi specs139) hints139 N Tryz.f139 false false (.list (.list (.int .i64))) [.at 1, .at 0, .at 1, .at 0] (.list (.int .i64)) r (st139 x.1) (st139 x.1) := by kernel_rfl
theorem e139b (N : Nat) (x : ((Unit × (((List (Int × (Int × Unit))) × (Int × (Int × Unit))) × Unit)) × Unit)) : vnil Tryz.prog (phi specs139) hints139 N Tryz.f139 false false (.prod (.clo 140 .unit (.prod (.ptr STAB) .unit)) .unit) (.list (.list (.int .i64))) x = (match f140 x.1 with | .ret r => vrng Tryz.prog (phi specs139) hints139 N Tryz.f139 false false (.list (.list (.int .i64))) [.at 1, .at 0, .at 1, .at 0] (.list (.int .i64)) r (st139 x.1) (st139 x.1) | _ => .fail) := by kernel_rfl
theorem e139 (N : Nat) (x : ((Unit × (((List (Int × (Int × Unit))) × (Int × (Int × Unit))) × Unit)) × Unit)) : vnil Tryz.prog (phi specs139) hints139 N Tryz.f139 false false (.prod (.clo 140 .unit (.prod (.ptr STAB) .unit)) .unit) (.list (.list (.int .i64))) x = F139 N x := by
  refine (e139b N x).trans ?_
  unfold F139
  cases f140 x.1 with
  | ret r => exact (e139a N x r).symm
  | pan p => rfl
  | fail => rfl
noncomputable def f139 (x : ((Unit × (((List (Int × (Int × Unit))) × (Int × (Int × Unit))) × Unit)) × Unit)) : Out (List (List Int)) := F139 fuel x
theorem nil_calls {l : List Spec} (hl : ∀ sp ∈ l, Contract Tryz.prog sp) {fn : Nat} {f : Func} {c : Code} (hfn : Tryz.prog.funcs[fn]? = some f) (hb : f.body = some c) (hnt : 1 ≤ f.ntmps) (hints : List (Nat × List Nat)) (N : Nat) {multi own : Bool} {arg res : Ty} {x : arg.den} {r : res.den}
    (h : vnil Tryz.prog (phi l) hints N f multi own arg res x = .ret r) {M : Mut} {w : World} {vs : Array Value} (hI : Inv.I Tryz.prog w) (hvs : RepT M w arg vs.toList x) (hlt : ∀ b o, M b o → b < w.heap.size) :
    Calls Tryz.prog fn (#[.slice none 0 0] ++ vs) w fun e w' => ∃ v, e = .returned v ∧ Below w.heap.size w w' ∧ ResOK M w w' multi own res v r := by
  have hI' : ∀ w', Fr (· < w.heap.size) w w' → Inv.I Tryz.prog w' := fun w' hf => Inv.below _ _ hI hf.toBelow
  have hdm : ∀ D, (base0 M w).dm D → ¬ (D < w.heap.size) := fun D hD => Nat.not_lt.2 hD
  have hvs' : RepT M w (.prod (.list (.int .i64)) arg) (#[Value.slice none 0 0] ++ vs).toList (([] : List Int), x) := by
    refine ⟨.slice none 0 0, vs.toList, by simp, ⟨_, rfl, RepC.list_nil _⟩, hvs⟩
  have hst := start (n := f.ntmps) hvs' hlt
  obtain ⟨a0, ha0⟩ : ∃ a0 : Act, a0 = { tmps := (#[Value.slice none 0 0] ++ vs) ++ Array.replicate (f.ntmps - (#[Value.slice none 0 0] ++ vs).size) undef, defers := [] } := ⟨_, rfl⟩
  rw [← ha0] at hst
  have h0 : tm a0 0 = Value.slice none 0 0 := by rw [ha0]; simp [tm, Array.getElem?_append]
  have hsz : 0 < a0.tmps.size := by rw [ha0]; simp; omega
  have hst2 := hst.put_plain (d := 0) (s := .nil) (v := .slice none 0 0) (by rw [← hst.size]; exact hsz) (fun cs h => by cases h) rfl rfl
  rw [← h0, put_same hsz] at hst2
  have hv : vbody Tryz.prog (phi l) hints N c f.results.toList multi own res ((st0 f.ntmps (.prod (.list (.int .i64)) arg) (([] : List Int), x)).set 0 .nil) = .ret r := by
    unfold vnil bodyOf at h
    rw [hb] at h
    have e : (st0 f.ntmps (.prod (.list (.int .i64)) arg) (([] : List Int), x)).set 0 .nil = .nil :: st0 (f.ntmps - 1) arg x := by
      show S.nil :: (argS arg x ++ List.replicate (f.ntmps - (argS (.prod (.list (.int .i64)) arg) (([] : List Int), x)).length) .und) = _
      unfold st0
      have : (argS (.prod (.list (.int .i64)) arg) (([] : List Int), x)).length = (argS arg x).length + 1 := rfl
      rw [this, show f.ntmps - ((argS arg x).length + 1) = f.ntmps - 1 - (argS arg x).length by omega]
    rw [e]
    exact h
  refine callsIn_wide.1 (callsIn_of_wp_marks (n := 0) hfn hb trivial ?_)
  rw [← ha0]
  refine code_ok (phi_ok hl) mixed hints N (by simp) c (· < w.heap.size) (base0 M w) w none none 0 (fun _ => rfl) hI' (fun j v hj => by cases hj) _ _ ?_ ?_ _ _ _ ⟨Fr.refl _ _, M, hst2⟩ hv
  · intro _ p q hp; cases hp
  · intro e st a w' hc hk
    have key : vres Tryz.prog f.results.toList multi own res st = .ret r → LeavesInM Fence.wide 0 Tryz.prog f a.tmps (fun e w' => ∃ v, e = .returned v ∧ Below w.heap.size w w' ∧ ResOK M w w' multi own res v r) a.defers .returning w' := by
      intro hk
      obtain ⟨hb', M', hg⟩ := hc
      refine leave (M0 := base0 M w) (F := (· < w.heap.size)) (w0 := w) (st := st) (by simp) (fun M2 w2 hg2 hf2 => ?_) hdm a.defers M' w' hg hb'
      obtain ⟨r', h1, v, h2, h3, h4⟩ := vres_ok (fn := f) hg2 (by simp) hk
      cases h1
      refine ⟨v, h2, v, rfl, hf2.toBelow, M2, hg2.up, fun b o hM => ?_, h3, fun b h5 h6 => Nat.le_of_not_lt (h4 b h5 h6)⟩
      rcases Nat.lt_or_ge b w.heap.size with h5 | h5
      · exact .inl (hg2.down b o h5 hM)
      · exact .inr ⟨h5, hg2.lt b o hM⟩
    cases e with
    | normal => exact key hk
    | ret => exact key hk
    | exit i => cases hk
noncomputable def f103 (x : ((Unit × (((List (Int × (Int × Unit))) × (Int × (Int × Unit))) × Unit)) × Unit)) : Out (List (List Int)) := match f139 x with | .ret r => .ret r | _ => .fail
noncomputable def sp103 : Spec := ⟨103, .call, .prod (.clo 140 .unit (.prod (.ptr (.prod (.list (.prod (.int .i64) (.prod (.int .i64) .unit))) (.prod (.int .i64) (.prod (.int .i64) .unit)))) .unit)) .unit, .list (.list (.int .i64)), false, false, f103⟩
theorem f103_ret {x : ((Unit × (((List (Int × (Int × Unit))) × (Int × (Int × Unit))) × Unit)) × Unit)} {r : List (List Int)} (h : f103 x = .ret r) : f139 x = .ret r := by
  unfold f103 at h
  split at h
  · rename_i r' e; cases h; exact e
  · cases h
theorem f103_pan (x : ((Unit × (((List (Int × (Int × Unit))) × (Int × (Int × Unit))) × Unit)) × Unit)) (p : Value) : f103 x ≠ .pan p := by
  unfold f103
  split <;> simp
set_option maxRecDepth 20000 in
theorem c103 : Contract Tryz.prog sp103 := by
  refine contract_ret rfl (fun x p => f103_pan x p) fun x M w vs r hr hI hvs hlt => ?_
  have hr' : f139 x = .ret r := f103_ret hr
  have h139 := nil_calls (l := specs139) (all_cons c140 all_nil) Tryz.func139 rfl (by rw [Tryz.ntmps139]; omega) hints139 fuel ((e139 fuel x).trans hr') hI hvs hlt
  obtain ⟨v, rest, e1, e2, e3⟩ := hvs
  have e3' : rest = [] := e3
  subst e3'
  have hvs' : vs = #[v] := by apply Array.ext'; rw [e1]
  subst hvs'
  clear e1 e2 e3
  have h139' : Calls Tryz.prog 139 #[.slice none 0 0, v] w fun e w' => ∃ v, e = .returned v ∧ Below w.heap.size w w' ∧ ResOK M w w' false false (.list (.list (.int .i64))) v r := h139
  clear h139
  show Calls Tryz.prog 103 #[v] w _
  go_enter Tryz.func103, Tryz.ntmps103
  go_wp2_with (go_at_call 139; refine h139'.mono ?_; rintro e w' ⟨u, rfl, hbel, hres⟩)
  simp [bodyPost, results, Tryz.results103, go_sem]
  exact ⟨hbel, hres⟩
end Go.V
