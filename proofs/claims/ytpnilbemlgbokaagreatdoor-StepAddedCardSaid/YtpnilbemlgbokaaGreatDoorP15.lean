/- A part of the proof of a law of the step table. -/
import Derived.Test.YtpnilbemlgbokaaGreatDoorS8
import Derived.Test.YtpnilbemlgbokaaGreatDoorSL15
import Derived.Test.YtpnilbemlgbokaaGreatDoorPH
set_option linter.all false
namespace Go.V
open Go.Proofs
theorem law15 (x : (List (Int × (Int × Unit))) × (Int × (Int × Unit))) (k : List Int) (o : Int) : f15 (x, (k, (o, ()))) = .ret true := by
  unfold f15 F15; try delta lenI
  simp only [f22v_eq, f35v_eq, f41v_eq, f59v_eq, f61v_eq, f37v_eq, known_true]
  obtain ⟨b, a1, a2⟩ := f22_at x k
  cases b
  · simp only [a1, Bool.not_false]
  obtain ⟨h16, k16, ht, hk⟩ := a2.1 rfl
  have tl := ht.1
  have wn : IntKind.i64.wrap ((x.1.length : Int) - 1) = (x.1.length : Int) - 1 := wr (by omega) (by omega)
  have e35 : ∀ r : Int, f35 (x, (r, ())) = .ret (decide (0 ≤ r ∧ r ≤ (x.1.length : Int) - 1)) := fun r => by
    unfold f35 F35; try delta lenI
    simp only [i72, wn]
  have e41 := fun r => f41_at k r (show k.length ≤ 1000 by omega)
  by_cases ho : 0 ≤ o ∧ o ≤ (x.1.length : Int) - 1
  rotate_left
  · simp only [a1, Bool.not_true, e35, dF ho, Bool.not_false]
  by_cases hm : o ∈ k
  · simp only [a1, Bool.not_true, e35, dT ho, e41, dT hm]
  obtain ⟨q1, q2⟩ := adds x ht k hk
  obtain ⟨z1, z2, z3, z4, z5, z6, z7⟩ := adds_least (x := x) (k := k) (row := o) ho.1 (by omega) hm
  rw [if_pos z1] at q2
  have hr : 0 ≤ (addS x k).1 ∧ (addS x k).1 ≤ (x.1.length : Int) - 1 := ⟨z2, by omega⟩
  obtain ⟨w1, w2, _⟩ := with_at hk (show k.length ≤ 999 by omega) hr.1 hr.2 z4
  obtain ⟨v1, v2, _⟩ := with_at hk (show k.length ≤ 999 by omega) ho.1 ho.2 hm
  have wl1 := kp_len w2
  have wl2 := kp_len v2
  obtain ⟨_, _, _, d1, _⟩ := words_at x ht (wth k (addS x k).1) w2 (by omega)
  obtain ⟨_, _, _, d2, _⟩ := words_at x ht (wth k o) v2 (by omega)
  have c1 : ((dub x (wth k (addS x k).1)).length : Int) = (addS x k).2.1 := z5.symm
  have c2 : ((dub x (wth k o)).length : Int) ≥ (addS x k).2.1 := z6
  simp only [a1, Bool.not_true, e35, dT ho, e41, dF hm, q2, nF (rfl : (0 : Int) = 0), dT hr, dF z4, w1, v1, d1, d2, eT (rfl : (0 : Int) = 0), eT c1, dT c2]
  by_cases c3 : ((dub x (wth k o)).length : Int) > (addS x k).2.1
  · simp only [dT c3]
  · have c4 : o ≥ (addS x k).1 := z7 (by unfold cn; omega)
    simp only [dF c3, dT c4]
end Go.V
