/- A part of the proof of a law of the step table. -/
import Derived.Test.YtpnilbemlgbokaaGreatDoorS8
import Derived.Test.YtpnilbemlgbokaaGreatDoorSL10
import Derived.Test.YtpnilbemlgbokaaGreatDoorPA
set_option linter.all false
namespace Go.V
open Go.Proofs
theorem law10 (x : (List (Int × (Int × Unit))) × (Int × (Int × Unit))) (s : Int) : f10 (x, (s, ())) = .ret true := by
  unfold f10 F10; try delta lenI
  simp only [f48v_eq, f49v_eq, f34v_eq, f50v_eq, f51v_eq, f52v_eq, f31v_eq, known_true, lenE]
  by_cases h1 : (x.1.length : Int) ≤ 16
  rotate_left
  · simp only [dF h1, Bool.not_false]
  simp only [dT h1, Bool.not_true]
  obtain ⟨b, t1, t2, t3⟩ := tab x (by omega)
  cases b
  · obtain ⟨_, _, _, _, _, _, n1, n2⟩ := no_tab (k := []) (u := []) t2
    simp only [n1, n2 s, t1]
    rfl
  have ht := t3.1 rfl
  have tl := ht.1
  obtain ⟨w, l, q1, q2, _⟩ := widest x ht
  have wn : IntKind.i64.wrap ((x.1.length : Int) - 1) = (x.1.length : Int) - 1 := wr (by omega) (by omega)
  have e51 : f51 (x, (s, ())) = .ret (decide (1 ≤ s ∧ s ≤ (x.1.length : Int) - 1)) := by
    unfold f51 F51; try delta lenI
    simp only [i72, lenE, wn]
  by_cases hd : 1 ≤ s ∧ s ≤ (x.1.length : Int) - 1
  · obtain ⟨l', e1, e2, e3, _⟩ := keeps x ht (s := s) (by omega) (by omega)
    have e48 : f48 (x, (s, ())) = .ret (l', (0, ())) := by
      unfold f48 F48; try delta lenI
      simp only [t2, Bool.not_true, i86, lenE, wn, dT hd, e1]
    have hl := kp_len e3
    simp only [e48, q1, q2, t1, e51, dT hd, e2, f31_same l' (by omega), nF (rfl : w = w), nF (rfl : (0 : Int) = 0), eT (rfl : (0 : Int) = 0), Bool.not_true]
  · have e48 : f48 (x, (s, ())) = .ret ([], (2, ())) := by
      unfold f48 F48; try delta lenI
      simp only [t2, Bool.not_true, i86, lenE, wn, dF hd, Bool.not_false]
    simp only [e48, q1, q2, t1, e51, dF hd, nF (rfl : w = w), nF (rfl : (0 : Int) = 0), Bool.not_true, Bool.not_false]
    rfl
end Go.V
