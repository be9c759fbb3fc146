/- A part of the proof of a law of the step table. -/
import Derived.Test.YtpnilbemlgbokaaGreatDoorS8
import Derived.Test.YtpnilbemlgbokaaGreatDoorSL18
import Derived.Test.YtpnilbemlgbokaaGreatDoorPA
set_option linter.all false
namespace Go.V
open Go.Proofs
theorem law18 (x : (List (Int × (Int × Unit))) × (Int × (Int × Unit))) (k u : List Int) : f18 (x, (k, (u, ()))) = .ret true := by
  unfold f18 F18; try delta lenI
  simp only [f64v_eq, f25v_eq, f26v_eq, f34v_eq, f38v_eq, f23v_eq, f65v_eq, f31v_eq, f66v_eq, known_true, lenE]
  by_cases h1 : (x.1.length : Int) ≤ 16
  rotate_left
  · simp only [dF h1, Bool.not_false]
  by_cases h2 : (k.length : Int) > 16
  · simp only [dT h1, dT h2, Bool.not_true]
  by_cases h3 : (u.length : Int) > 16
  · simp only [dT h1, dF h2, dT h3, Bool.not_true]
  simp only [dT h1, dF h2, dF h3, Bool.not_true]
  obtain ⟨b, t1, t2, t3⟩ := tab x (by omega)
  cases b
  · obtain ⟨n1, n2, n3, _⟩ := no_tab (k := k) (u := u) t2
    simp only [n1, n2, n3, t1]
    rfl
  have e64 := yes_tab t2
  have ht := t3.1 rfl
  obtain ⟨b, s1, s2, s3⟩ := kep x k (by omega) (by omega)
  cases b
  · obtain ⟨n2, n3, _⟩ := no_kep (u := u) t2 s2
    simp only [e64, n2, n3, t1, s1]
    rfl
  have hk := s3.1 rfl
  obtain ⟨b, r1, r2, r3⟩ := tru x u (by omega)
  cases b
  · obtain ⟨n2, n3⟩ := no_tru t2 s2 r2
    simp only [e64, n2, n3, t1, s1, r1]
    rfl
  have hu := r3.1 rfl
  obtain ⟨l, b, q1, q2, q3, q4, q5, q6⟩ := all_in ht hk hu
  have hl : l.length ≤ 1000 := by have := q3.1; omega
  simp only [e64, q1, q2, q4, q5, t1, s1, r1, f31_same l hl]
  cases b <;> rfl
end Go.V
