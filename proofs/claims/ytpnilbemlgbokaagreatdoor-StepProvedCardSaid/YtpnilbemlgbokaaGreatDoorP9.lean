/- A part of the proof of a law of the step table. -/
import Derived.Test.YtpnilbemlgbokaaGreatDoorS8
import Derived.Test.YtpnilbemlgbokaaGreatDoorSL9
import Derived.Test.YtpnilbemlgbokaaGreatDoorPV
set_option linter.all false
namespace Go.V
open Go.Proofs
theorem law9 (x : (List (Int × (Int × Unit))) × (Int × (Int × Unit))) (k u : List Int) (o : Int) : f9 (x, (k, (u, (o, ())))) = .ret true := by
  unfold f9 F9; try delta lenI
  simp only [f22v_eq, f23v_eq, f46v_eq, f42v_eq, f43v_eq, f26v_eq, f36v_eq, f47v_eq, known_true]
  obtain ⟨b, a1, a2⟩ := f22_at x k
  cases b
  · simp only [a1, Bool.not_false]
  obtain ⟨h16, k16, ht, hk⟩ := a2.1 rfl
  have tl := ht.1
  have kl := kp_len hk
  by_cases h3 : (u.length : Int) > 16
  · simp only [a1, Bool.not_true, dT h3]
  obtain ⟨b, r1, r2, r3⟩ := tru x u (by omega)
  cases b
  · simp only [a1, r1, Bool.not_true, Bool.not_false, dF h3]
  have hu := r3.1 rfl
  by_cases ho : 0 ≤ o ∧ o ≤ 100
  rotate_left
  · simp only [a1, r1, Bool.not_true, Bool.not_false, dF h3, f46_at, dF ho]
  obtain ⟨n, _, l2, l3, l4⟩ := least_at x ht hk
  obtain ⟨p1, p2⟩ := f42_at x ht hk
  obtain ⟨_, is, _, _, _, g1, _, g2⟩ := all_in ht hk hu
  have ht' : Tb ((x.1, (x.2.1, (o, ()))) : TABL) := ⟨ht.1, ht.2.1, ho, ht.2.2.2⟩
  obtain ⟨w, w1, _, _, _, _, w2, _⟩ := words_at (x.1, (x.2.1, (o, ()))) ht' k hk (by omega)
  have off_iff : ∀ z : Int, 0 ≤ z → ∀ y : TABL, y = (x.1, (x.2.1, (z, ()))) → (dub y k = [] ↔ n ≤ z) := by
    intro z hz y hy
    subst hy
    rw [l4 z hz]
    constructor
    · intro h j j1 j2
      refine Int.not_lt.1 fun c => ?_
      have : j ∈ dub (x.1, (x.2.1, (z, ()))) k := dub_mem.2 ⟨j1, j2, c⟩
      rw [h] at this; cases this
    · intro h
      cases hd : dub (x.1, (x.2.1, (z, ()))) k with
      | nil => rfl
      | cons j l =>
        obtain ⟨j1, j2, j3⟩ := dub_mem.1 (show j ∈ dub (x.1, (x.2.1, (z, ()))) k by rw [hd]; simp)
        have : Fa x k j ≤ z := h j j1 j2
        have j3' : z < Fa x k j := j3
        omega
  have hx := off_iff x.2.2.1 ht.2.2.1.1 x rfl
  have hw : ((w == 3) != decide (o ≥ n)) = false := by
    have := off_iff o ho.1 _ rfl
    by_cases c : n ≤ o
    · rw [dT (show o ≥ n by omega), w2.2 (this.2 c)]; rfl
    · rw [dF (show ¬ o ≥ n by omega), eF (fun e => c (this.1 (w2.1 e)))]; rfl
  by_cases hd : dub x k = []
  · have c : n ≤ x.2.2.1 := hx.1 hd
    have hi : is = true := g2.2 fun j j1 j2 => sure_right ht hk (by omega) hu j1 j2 (by rw [hd]; simp)
    have c2 : (((5 : Int) == 5) != decide (x.2.2.1 ≥ n)) = false := by rw [dT (show x.2.2.1 ≥ n by omega)]; rfl
    simp only [a1, r1, Bool.not_true, dF h3, f46_at, dT ho, p1 hd, l2, g1, w1, hi, nT (show (5 : Int) ≠ 0 by decide), nF (rfl : (5 : Int) = 5), nF (rfl : (0 : Int) = 0), dF (show ¬ n < 0 by omega), c2, hw]
  · obtain ⟨p, e1, e2⟩ := p2 hd
    have c : ¬ n ≤ x.2.2.1 := fun c => hd (hx.2 c)
    have c2 : (((0 : Int) == 5) != decide (x.2.2.1 ≥ n)) = false := by rw [dF (show ¬ x.2.2.1 ≥ n by omega)]; rfl
    have hp := e2.1.1
    obtain ⟨b, z1, _, z3⟩ := tru x p (by omega)
    obtain rfl : b = true := z3.2 hp
    obtain ⟨_, own, _, _, _, y1, _, y2⟩ := all_in ht hk hp
    have hown : own = false := by
      cases own
      · rfl
      · obtain ⟨_, j, j1, j2, j3⟩ := e2.1
        exact absurd (y2.1 rfl j j1 j2) j3
    subst hown
    have hul := hu.1
    have hpl := hp.1
    obtain ⟨bb, v1, v2⟩ := f47_at u p (by omega) (by omega)
    cases is
    · have hw' : Wt x k u := ⟨hu, Classical.byContradiction fun h => by
        have : (false : Bool) = true := g2.2 fun j j1 j2 => Classical.byContradiction fun hh => h ⟨j, j1, j2, hh⟩
        cases this⟩
      have hbb : bb = false := by
        cases bb
        · rfl
        · have hb := v2.1 rfl
          rcases e2.2 u hw' with e | e
          · subst e; exact absurd hb (bl_irrefl _)
          · exact absurd hb (bl_asymm _ _ e)
      subst hbb
      simp only [a1, r1, Bool.not_true, dF h3, f46_at, dT ho, e1, l2, g1, w1, nF (rfl : (0 : Int) = 0), dF (show ¬ n < 0 by omega), c2, hw, z1, Bool.not_false, v1, y1, eT (rfl : (0 : Int) = 0)]
    · simp only [a1, r1, Bool.not_true, dF h3, f46_at, dT ho, e1, l2, g1, w1, nF (rfl : (0 : Int) = 0), dF (show ¬ n < 0 by omega), c2, hw, z1, y1, eT (rfl : (0 : Int) = 0), Bool.not_false]
end Go.V
