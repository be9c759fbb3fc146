/- A part of the proof of a law of the step table. -/
import Derived.Test.YtpnilbemlgbokaaGreatDoorS8
import Derived.Test.YtpnilbemlgbokaaGreatDoorSL19
import Derived.Test.YtpnilbemlgbokaaGreatDoorPZ
set_option linter.all false
namespace Go.V
open Go.Proofs
theorem law19 (x : (List (Int × (Int × Unit))) × (Int × (Int × Unit))) : f19 (x, ()) = .ret true := by
  unfold f19 F19; try delta lenI
  simp only [f67v_eq, f34v_eq, f68v_eq, f69v_eq, f70v_eq, known_true]
  by_cases h1 : (x.1.length : Int) ≤ 16
  rotate_left
  · simp only [dF h1, Bool.not_false]
  simp only [dT h1, Bool.not_true]
  obtain ⟨b, t1, t2, t3⟩ := tab x (by omega)
  cases b
  · have n1 : f67 (x, ()) = .ret ([], (2, ())) := by unfold f67 F67; simp only [t2, Bool.not_false]
    simp only [n1, t1]
    rfl
  have ht := t3.1 rfl
  have tl := ht.1
  have e67 : f67 (x, ()) = .ret (txt (rowsL x), (0, ())) := by
    unfold f67 F67
    simp only [t2, Bool.not_true, f114_at x (sb_tb ht)]
  obtain ⟨b, s1, s2⟩ := f70_iff x x (by omega) (by omega)
  obtain rfl : b = true := s2.2 rfl
  simp only [e67, t1, Bool.not_true, f68_txt ht, eT (rfl : (0 : Int) = 0), f69_at x (sb_tb ht), beq_self_eq_true, s1]
end Go.V
