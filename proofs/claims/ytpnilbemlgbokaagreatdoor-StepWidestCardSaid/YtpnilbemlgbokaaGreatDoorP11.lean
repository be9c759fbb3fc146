/- A part of the proof of a law of the step table. -/
import Derived.Test.YtpnilbemlgbokaaGreatDoorS8
import Derived.Test.YtpnilbemlgbokaaGreatDoorSL11
import Derived.Test.YtpnilbemlgbokaaGreatDoorPN
set_option linter.all false
namespace Go.V
open Go.Proofs
theorem law11 (x : (List (Int × (Int × Unit))) × (Int × (Int × Unit))) (s : Int) : f11 (x, (s, ())) = .ret true := by
  unfold f11 F11; try delta lenI
  simp only [f34v_eq, f51v_eq, f49v_eq, f48v_eq, f53v_eq, f38v_eq, f54v_eq, known_true]
  by_cases h1 : (x.1.length : Int) ≤ 16
  rotate_left
  · simp only [dF h1, Bool.not_false]
  simp only [dT h1, Bool.not_true]
  obtain ⟨b, t1, t2, t3⟩ := tab x (by omega)
  cases b
  · simp only [t1, Bool.not_false]
  have ht := t3.1 rfl
  have tl := ht.1
  have wn : IntKind.i64.wrap ((x.1.length : Int) - 1) = (x.1.length : Int) - 1 := wr (by omega) (by omega)
  have e51 : ∀ s : Int, f51 (x, (s, ())) = .ret (decide (1 ≤ s ∧ s ≤ (x.1.length : Int) - 1)) := fun s => by
    unfold f51 F51; try delta lenI
    simp only [i72, wn]
  by_cases hd : 1 ≤ s ∧ s ≤ (x.1.length : Int) - 1
  rotate_left
  · simp only [t1, Bool.not_true, e51, dF hd, Bool.not_false]
  obtain ⟨w, l, q1, q2, q3, q4, q5, q6, q7, q8, q9⟩ := widest x ht
  obtain ⟨m, e1, e2, e3, _⟩ := keeps x ht (s := s) (by omega) (by omega)
  have hw : 1 ≤ w ∧ w ≤ (x.1.length : Int) - 1 := ⟨q3, q4⟩
  have k1 : f48 (x, (w, ())) = .ret (l, (0, ())) := by
    unfold f48 F48; try delta lenI
    simp only [t2, Bool.not_true, i86, wn, dT hw, q5]
  have k2 : f48 (x, (s, ())) = .ret (m, (0, ())) := by
    unfold f48 F48; try delta lenI
    simp only [t2, Bool.not_true, i86, wn, dT hd, e1]
  obtain ⟨k, f1, f2, f3⟩ := few_of ht
  have hl := kp_len q7
  have hm := kp_len e3
  have hk := f2.2 l ((AL_mem ht l).2 ⟨q7, q8⟩)
  obtain ⟨b1, g1, g2⟩ := f38_at x l (by omega) (by omega)
  obtain rfl : b1 = true := g2.2 q7
  obtain ⟨b2, g3, g4⟩ := f38_at x m (by omega) (by omega)
  obtain rfl : b2 = true := g4.2 e3
  obtain ⟨c1, g5, g6⟩ := f54_at x ht l q7
  obtain rfl : c1 = true := g6.2 q8
  obtain ⟨c2, g7, g8⟩ := f54_at x ht m e3
  simp only [t1, Bool.not_true, e51, dT hd, q1, nF (rfl : (0 : Int) = 0), dT hw, k1, k2, f3, dF (show ¬ (l.length : Int) > x.1.length by omega), dF (show ¬ (m.length : Int) > x.1.length by omega), g1, g3, dF (show ¬ (k.length : Int) > l.length by omega), g5, g7]
  cases c2
  · simp only [Bool.not_false]
  · have : s ≤ w := by
      refine Int.not_lt.1 fun c => q9 s m c hd.2 e1 (g8.1 rfl)
    simp only [Bool.not_true, dT this]
end Go.V
