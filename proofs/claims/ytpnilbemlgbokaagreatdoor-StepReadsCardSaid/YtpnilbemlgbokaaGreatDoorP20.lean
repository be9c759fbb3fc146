/- A part of the proof of a law of the step table. -/
import Derived.Test.YtpnilbemlgbokaaGreatDoorS8
import Derived.Test.YtpnilbemlgbokaaGreatDoorSL20
import Derived.Test.YtpnilbemlgbokaaGreatDoorPJ
set_option linter.all false
namespace Go.V
open Go.Proofs
theorem law20 (s : List UInt8) : f20 (s, ()) = .ret true := by
  unfold f20 F20; try delta lenI
  simp only [f68v_eq, f71v_eq, f70v_eq, f34v_eq, f67v_eq, known_true]
  by_cases h1 : (s.length : Int) > 370
  · simp only [dT h1]
  have z70 : f70 (([], (0, (0, ()))), (([], (0, (0, ()))), ())) = .ret true := by
    obtain ⟨b, s1, s2⟩ := f70_iff ([], (0, (0, ()))) ([], (0, (0, ()))) (by simp) (by simp)
    rw [s1, s2.2 rfl]
  have ref := f71_any s (by omega)
  by_cases h2 : (s.length : Int) > 270
  · have e68 : f68 (s, ()) = .ret (([], (0, (0, ()))), (3, ())) := by
      unfold f68 F68; try delta lenI
      simp only [dT h2]
    rcases ref with ⟨x, e, _⟩ | e
    · simp only [dF h1, e68, e, dT h2, eT (rfl : (3 : Int) = 3), z70]
    · simp only [dF h1, e68, e, dT h2, eT (rfl : (3 : Int) = 3), z70]
  rcases f117_any s (by omega) with ⟨x, e117, rb, hs⟩ | ⟨q, e117⟩
  · -- read
    have e71 : f71 (s, ()) = .ret (x, (true, ())) := by rw [hs]; exact f71_txt x rb
    obtain ⟨b1, a1, a2⟩ := f77_at x
    obtain ⟨b2, a3, a4⟩ := f34_at x (by have := rb.1; omega)
    have hb : b2 = b1 := Bool.eq_iff_iff.2 (a4.trans a2.symm)
    subst hb
    cases b2
    · have e68 : f68 (s, ()) = .ret (([], (0, (0, ()))), (2, ())) := by
        unfold f68 F68; try delta lenI
        simp only [dF h2, e117, a1, Bool.not_false]
      simp only [dF h1, e68, e71, dF h2, Bool.not_true, a3, Bool.not_false, eT (rfl : (2 : Int) = 2), z70]
    · have ht := a2.1 rfl
      have tl := ht.1
      have e68 : f68 (s, ()) = .ret (x, (0, ())) := by
        unfold f68 F68; try delta lenI
        simp only [dF h2, e117, a1, Bool.not_true]
      have e67 : f67 (x, ()) = .ret (s, (0, ())) := by
        unfold f67 F67
        simp only [a1, Bool.not_true, f114_at x (sb_tb ht), ← hs]
      obtain ⟨b, s1, s2⟩ := f70_iff x x (by omega) (by omega)
      obtain rfl : b = true := s2.2 rfl
      simp only [dF h1, e68, e71, dF h2, Bool.not_true, a3, e67, eT (rfl : (0 : Int) = 0), s1, beq_self_eq_true]
  · -- given up
    have e68 : f68 (s, ()) = .ret (([], (0, (0, ()))), (4, ())) := by
      unfold f68 F68; try delta lenI
      simp only [dF h2, e117, nt_err, nT (show (4 : Int) ≠ 0 by decide)]
    rcases ref with ⟨x, _, rb, hs⟩ | e
    · have := f117_at x rb
      rw [← hs, e117] at this
      cases this
    · simp only [dF h1, e68, e, dF h2, Bool.not_false, eT (rfl : (4 : Int) = 4), z70]
end Go.V
