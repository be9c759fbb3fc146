/- A part of the proof of a law of the step table. -/
import Derived.Test.YtpnilbemlgbokaaGreatDoorS8
import Derived.Test.YtpnilbemlgbokaaGreatDoorSL14
import Derived.Test.YtpnilbemlgbokaaGreatDoorPH
set_option linter.all false
namespace Go.V
open Go.Proofs
theorem law14 (x : (List (Int × (Int × Unit))) × (Int × (Int × Unit))) (k : List Int) : f14 (x, (k, ())) = .ret true := by
  unfold f14 F14; try delta lenI
  simp only [f59v_eq, f34v_eq, f38v_eq, f60v_eq, known_true]
  by_cases h1 : (x.1.length : Int) ≤ 16
  rotate_left
  · simp only [dF h1, Bool.not_false]
  by_cases h2 : (k.length : Int) > 16
  · simp only [dT h1, dT h2, Bool.not_true]
  simp only [dT h1, dF h2, Bool.not_true]
  obtain ⟨b, t1, t2, t3⟩ := tab x (by omega)
  cases b
  · have n1 : f59 (x, (k, ())) = .ret (0, (0, (2, ()))) := by unfold f59 F59; simp only [t2, Bool.not_false]
    simp only [n1, t1]
    rfl
  have ht := t3.1 rfl
  obtain ⟨b, s1, s2, s3⟩ := kep x k (by omega) (by omega)
  cases b
  · have n1 : f59 (x, (k, ())) = .ret (0, (0, (2, ()))) := by unfold f59 F59; simp only [t2, s2, Bool.not_true, Bool.not_false]
    simp only [n1, t1, s1]
    rfl
  have hk := s3.1 rfl
  obtain ⟨q1, q2⟩ := adds x ht k hk
  by_cases c : (addS x k).2.2 = true
  · rw [if_pos c] at q2
    rw [c] at q1
    simp only [q1, q2, t1, s1, Bool.not_true, eT (rfl : (0 : Int) = 0), eT (rfl : (addS x k).1 = (addS x k).1), eT (rfl : (addS x k).2.1 = (addS x k).2.1)]
  · rw [if_neg c] at q2
    have c' : (addS x k).2.2 = false := by cases h : (addS x k).2.2; rfl; exact absurd h c
    rw [c'] at q1
    simp only [q1, q2, t1, s1, Bool.not_true, Bool.not_false]
    rfl
end Go.V
