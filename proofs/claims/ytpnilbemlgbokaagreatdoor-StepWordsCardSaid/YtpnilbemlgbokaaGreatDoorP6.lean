/- A part of the proof of a law of the step table. -/
import Derived.Test.YtpnilbemlgbokaaGreatDoorS8
import Derived.Test.YtpnilbemlgbokaaGreatDoorSL6
import Derived.Test.YtpnilbemlgbokaaGreatDoorPA
set_option linter.all false
namespace Go.V
open Go.Proofs
theorem law6 (x : (List (Int × (Int × Unit))) × (Int × (Int × Unit))) (k : List Int) : f6 (x, (k, ())) = .ret true := by
  unfold f6 F6; try delta lenI
  simp only [f36v_eq, f37v_eq, f34v_eq, f38v_eq, f39v_eq, f40v_eq, f31v_eq, known_true, lenE]
  by_cases h1 : (x.1.length : Int) ≤ 16
  rotate_left
  · simp only [dF h1, Bool.not_false]
  by_cases h2 : (k.length : Int) > 16
  · simp only [dT h1, dT h2, Bool.not_true]
  simp only [dT h1, dF h2, Bool.not_true]
  obtain ⟨b, t1, t2, t3⟩ := tab x (by omega)
  cases b
  · obtain ⟨_, _, _, n1, n2, _⟩ := no_tab (k := k) (u := []) t2
    simp only [n1, n2, t1]
    rfl
  have ht := t3.1 rfl
  obtain ⟨b, s1, s2, s3⟩ := kep x k (by omega) (by omega)
  cases b
  · obtain ⟨_, _, n1, n2, _⟩ := no_kep (u := []) t2 s2
    simp only [n1, n2, t1, s1]
    rfl
  have hk := s3.1 rfl
  obtain ⟨w, q1, q2, q3, _⟩ := words_at x ht k hk (by omega)
  have hl : (dub x k).length ≤ 1000 := by have := dub_len x k; omega
  simp only [q1, q2, q3, t1, s1, f40_at x ht hk (show k.length ≤ 1000 by omega), f31_same _ hl, eT rfl, Bool.not_true]
end Go.V
