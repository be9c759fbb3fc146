/- Row. -/
import Derived.Test.YtmkbnifehdhbbaaGreatDoorCR2
import Derived.Test.YtmkbnifehdhbbaaGreatDoorCRA
import Derived.Test.YtmkbnifehdhbbaaGreatDoorL10
set_option linter.all false
namespace Go.V
open Go.Proofs Go.Proofs.YtmkbnifehdhbbaaGreatDoor
open Go.ChangeShapes Go.WideShapes Go.ChangeAt Go.RowKit
set_option maxRecDepth 100000 in
theorem ZU (os : Os) (started : os.Started) (H : Type) (enc : TypeId × Value → H) :
    ReturnsInHanded {} Tryz.checked os 10 .any (fun w args => (Rows.copiesAskedSpec.pre enc Tryz.prog Tryz.f10 [] false w args ∧ laidMetH Tryz.prog Gg w) ∧ sizedMet enc Tryz.prog Tryz.f10 (OpenSpec.ofChange Rows.copiesAskedSpec) false w args) (Rows.copiesAskedSpec.post enc Tryz.prog Tryz.f10 false true false false) := by
  refine wrap (C := Tryz.checked) (X := fun w _ => laidMetH Tryz.prog Gg w) (fun _ _ _ hh h => h.of_heap hh) Ws started (by kernel_rfl) Tryz.func10
    (ChangeSpec.witness_shaped (enc := enc) (C := Tryz.checked) (os := os) (X := fun w _ => laidMetH Tryz.prog Gg w) false (Ei os) #[.agg #[.int .i64 0, .slice none 0 0], .slice none 0 0, .int .i64 0, .int .i64 0] 8 rfl (Wl os _) (by kernel_rfl) (by kernel_rfl) (by kernel_rfl) (Wk os _)) ?_
  intro W base args ds gs before hval0 hW hL hsh
  have hval : ∀ (j : Nat) t v, Tryz.f10.params.toList[j]? = some t → args.toList[j]? = some v → Value.okWide Tryz.prog W .any base t v := fun j t v h1 h2 => hval0 j t v (by simpa using h1) (by simpa using h2)
  have hW' := hW
  obtain ⟨p, q, hA0, hV, rfl, hfz, hnd⟩ := hW
  have hA : DataW.TrodAll enc Tryz.prog W 0 (fun _ => true) true Tryz.f10.params.toList args.toList ds p := hA0
  obtain ⟨rfl, rfl⟩ := trodVars_none hV
  simp only [List.append_nil] at hW'
  have hlt : ∀ y ∈ p, y.block < W.heap.size := fun y hy => by simpa using hW'.lt y hy
  have hfit : C7 Tryz.prog (.prod (.prod (.int .i64) (.prod (.list (.prod (.int .i64) (.prod (.list (.int .i64)) .unit))) .unit)) (.prod (.list (.list (.int .i64))) (.prod (.int .i64) (.prod (.int .i64) .unit)))) Tryz.f10.params.toList := by
    rw [Tryz.params10]
    exact ⟨_, _, rfl, Wo, ⟨_, _, rfl, Wm, ⟨_, _, rfl, yq, ⟨_, _, rfl, yq, rfl⟩⟩⟩⟩
  obtain ⟨x, hx⟩ := TK _ _ args.toList ds p hfit hval hA
  have hA1 := hA
  rw [Tryz.params10] at hA1
  obtain ⟨v0, vs0, d0, ds0, p0, q0, e0, rfl, g0, h0, r0⟩ := trodAll_cons hA1
  obtain ⟨v1, vs1, d1, ds1, p1, q1, e1, rfl, g1, h1, r1⟩ := trodAll_cons r0
  obtain ⟨v2, vs2, d2, ds2, p2, q2, e2, rfl, g2, h2, r2⟩ := trodAll_cons r1
  obtain ⟨v3, vs3, d3, ds3, p3, q3, e3, rfl, g3, h3, r3⟩ := trodAll_cons r2
  obtain ⟨_, rfl, _⟩ := trodAll_nil r3
  refine (Wu c10 (x := x) (ZS x.1 x.2.1 x.2.2.1 x.2.2.2.1) (Wp hL hsh) hx (fun _ _ h => h.elim)).mono fun e W' ⟨he, hb⟩ => ?_
  subst he
  exact ⟨_, rfl, _, _, _, [], _, [], hW', trodAll_cons_mk (shut_bool Tryz.underlying4 _) trodAll_mk0,
    Lf j1 hb _ _ _ _ (by kernel_rfl) hA hlt, rfl, hb.frame _, fun h => by cases h⟩
end Go.V
