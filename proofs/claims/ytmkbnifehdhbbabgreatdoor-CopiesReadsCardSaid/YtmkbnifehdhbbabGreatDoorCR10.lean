/- Row. -/
import Derived.Test.YtmkbnifehdhbbabGreatDoorCR2
import Derived.Test.YtmkbnifehdhbbabGreatDoorCRA
import Derived.Test.YtmkbnifehdhbbabGreatDoorL10
set_option linter.all false
namespace Go.V
open Go.Proofs Go.Proofs.YtmkbnifehdhbbabGreatDoor
open Go.ChangeShapes Go.WideShapes Go.ChangeAt Go.RowKit
set_option maxRecDepth 100000 in
theorem aa7 (os : Os) (started : os.Started) (H : Type) (enc : TypeId × Value → H) :
    ReturnsInHanded {} Tryz.checked os 10 .any (fun w args => (Rows.copiesReadsSpec.pre enc Tryz.prog Tryz.f10 [] false w args ∧ laidMetH Tryz.prog Gx w) ∧ sizedMet enc Tryz.prog Tryz.f10 (OpenSpec.ofChange Rows.copiesReadsSpec) false w args) (Rows.copiesReadsSpec.post enc Tryz.prog Tryz.f10 false true false false) := by
  refine wrap (C := Tryz.checked) (X := fun w _ => laidMetH Tryz.prog Gx w) (fun _ _ _ hh h => h.of_heap hh) WM started (by kernel_rfl) Tryz.func10
    (ChangeSpec.witness_shaped (enc := enc) (C := Tryz.checked) (os := os) (X := fun w _ => laidMetH Tryz.prog Gx w) false (Ey os) #[.string ⟨#[]⟩] 8 rfl (WG os _) (by kernel_rfl) (by kernel_rfl) (by kernel_rfl) (WF os _)) ?_
  intro W base args ds gs before hval0 hW hL hsh
  have hval : ∀ (j : Nat) t v, Tryz.f10.params.toList[j]? = some t → args.toList[j]? = some v → Value.okWide Tryz.prog W .any base t v := fun j t v h1 h2 => hval0 j t v (by simpa using h1) (by simpa using h2)
  have hW' := hW
  obtain ⟨p, q, hA0, hV, rfl, hfz, hnd⟩ := hW
  have hA : DataW.TrodAll enc Tryz.prog W 0 (fun _ => true) true Tryz.f10.params.toList args.toList ds p := hA0
  obtain ⟨rfl, rfl⟩ := trodVars_none hV
  simp only [List.append_nil] at hW'
  have hlt : ∀ y ∈ p, y.block < W.heap.size := fun y hy => by simpa using hW'.lt y hy
  have hfit : Dj Tryz.prog (.prod .str .unit) Tryz.f10.params.toList := by
    rw [Tryz.params10]
    exact ⟨_, _, rfl, WI, rfl⟩
  obtain ⟨x, hx⟩ := Ua _ _ args.toList ds p hfit hval hA
  have hA1 := hA
  rw [Tryz.params10] at hA1
  obtain ⟨v0, vs0, d0, ds0, p0, q0, e0, rfl, g0, h0, r0⟩ := trodAll_cons hA1
  obtain ⟨_, rfl, _⟩ := trodAll_nil r0
  refine (WO c10 (x := x) (aa5 x.1) (WK hL hsh) hx (fun _ _ h => h.elim)).mono fun e W' ⟨he, hb⟩ => ?_
  subst he
  exact ⟨_, rfl, _, _, _, [], _, [], hW', trodAll_cons_mk (shut_bool Tryz.underlying4 _) trodAll_mk0,
    Lw j1 hb _ _ _ _ (by kernel_rfl) hA hlt, rfl, hb.frame _, fun h => by cases h⟩
end Go.V
