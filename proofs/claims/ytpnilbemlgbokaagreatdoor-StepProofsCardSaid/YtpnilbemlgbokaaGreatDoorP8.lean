/- A part of the proof of a law of the step table. -/
import Derived.Test.YtpnilbemlgbokaaGreatDoorS8
import Derived.Test.YtpnilbemlgbokaaGreatDoorSL8
import Derived.Test.YtpnilbemlgbokaaGreatDoorPV
set_option linter.all false
namespace Go.V
open Go.Proofs
theorem law8 (x : (List (Int × (Int × Unit))) × (Int × (Int × Unit))) (k : List Int) : f8 (x, (k, ())) = .ret true := by
  unfold f8 F8; try delta lenI
  simp only [f42v_eq, f43v_eq, f34v_eq, f38v_eq, f44v_eq, f45v_eq, f31v_eq, known_true]
  by_cases h1 : (x.1.length : Int) ≤ 16
  rotate_left
  · simp only [dF h1, Bool.not_false]
  by_cases h2 : (k.length : Int) > 16
  · simp only [dT h1, dT h2, Bool.not_true]
  simp only [dT h1, dF h2, Bool.not_true]
  obtain ⟨b, t1, t2, t3⟩ := tab x (by omega)
  cases b
  · have n1 : f42 (x, (k, ())) = .ret ([], (2, ())) := by unfold f42 F42; simp only [t2, Bool.not_false]
    obtain ⟨_, _, _, _, _, n2, _⟩ := no_tab (k := k) (u := []) t2
    simp only [n1, n2, t1]
    rfl
  have ht := t3.1 rfl
  have tl := ht.1
  obtain ⟨b, s1, s2, s3⟩ := kep x k (by omega) (by omega)
  cases b
  · have n1 : f42 (x, (k, ())) = .ret ([], (2, ())) := by unfold f42 F42; simp only [t2, s2, Bool.not_true, Bool.not_false]
    obtain ⟨_, _, _, _, n2⟩ := no_kep (u := []) t2 s2
    simp only [n1, n2, t1, s1]
    rfl
  have hk := s3.1 rfl
  obtain ⟨n, q1, q2, _⟩ := least_at x ht hk
  obtain ⟨p1, p2⟩ := f42_at x ht hk
  obtain ⟨r1, r2⟩ := f44_at x ht hk
  by_cases hd : dub x k = []
  · simp only [p1 hd, r1 hd, q1, q2, t1, s1, Bool.not_true, nF (rfl : (0 : Int) = 0), nF (rfl : n = n), Bool.not_false]
    rfl
  · obtain ⟨p, e1, e2⟩ := p2 hd
    have hl : p.length ≤ 1000 := by have := e2.1.1.1; omega
    simp only [e1, r2 p e2, q1, q2, t1, s1, Bool.not_true, nF (rfl : (0 : Int) = 0), nF (rfl : n = n), eT (rfl : (0 : Int) = 0), f31_same p hl]
end Go.V
