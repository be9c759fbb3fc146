/- A part of the proof of a law of the step table. -/
import Derived.Test.YtpnilbemlgbokaaGreatDoorS8
import Derived.Test.YtpnilbemlgbokaaGreatDoorSL12
import Derived.Test.YtpnilbemlgbokaaGreatDoorPQ
set_option linter.all false
namespace Go.V
open Go.Proofs
theorem law12 (x : (List (Int × (Int × Unit))) × (Int × (Int × Unit))) : f12 (x, ()) = .ret true := by
  unfold f12 F12; try delta lenI
  simp only [f53v_eq, f55v_eq, f56v_eq, f34v_eq, f57v_eq, f31v_eq, f58v_eq, known_true]
  by_cases h1 : (x.1.length : Int) ≤ 16
  rotate_left
  · simp only [dF h1, Bool.not_false]
  simp only [dT h1, Bool.not_true]
  obtain ⟨b, t1, t2, t3⟩ := tab x (by omega)
  cases b
  · have n1 : f53 (x, ()) = .ret ([], (2, ())) := by unfold f53 F53; simp only [t2, Bool.not_false]
    have n2 : f55 (x, ()) = .ret (0, (2, ())) := by unfold f55 F55; simp only [t2, Bool.not_false]
    have n3 : f56 (x, ()) = .ret ([], (2, ())) := by unfold f56 F56; simp only [t2, Bool.not_false]
    simp only [n1, n2, n3, t1]
    rfl
  have ht := t3.1 rfl
  have tl := ht.1
  obtain ⟨k, f1, f2, f3⟩ := f55_at ht
  have f4 := f57_at ht f1
  obtain ⟨hk, hkd⟩ := (AL_mem ht k).1 f1.1
  have kl := kp_len hk
  have hkin : k ∈ As x k := List.mem_filter.2 ⟨f1.1, by simp⟩
  have il : (inAll x).length ≤ x.1.length := dl_len _ _ _
  cases hA : As x k with
  | nil => rw [hA] at hkin; cases hkin
  | cons a l =>
    have hs : (As x k).Pairwise bl := (AL_sorted x).filter _
    have ha : k = a := by
      have h2 := f1.2 a (List.mem_filter.1 (by rw [hA]; simp : a ∈ As x k)).1
      have h3 : (a.length : Int) = k.length := by simpa using (List.mem_filter.1 (by rw [hA]; simp : a ∈ As x k)).2
      rcases h2.2 (by omega) with e | e
      · exact e
      · rw [hA] at hkin hs
        rcases List.mem_cons.1 hkin with e2 | e2
        · exact e2
        · exact absurd e (bl_asymm _ _ ((List.pairwise_cons.1 hs).1 k e2))
    subst ha
    have g0 : inb (0 : Int) (k :: l).length = true := inbT (by omega) (by rw [List.length_cons]; omega)
    have g1 : List.getD (k :: l) (0 : Int).toNat ([] : List Int) = k := rfl
    rw [hA] at f3 f4
    simp only [f2, f3, f56_at ht, t1, Bool.not_true, f4, eT (rfl : (0 : Int) = 0), g0, cond_true, g1, f31_same k (by omega), eT (rfl : ((k :: l).length : Int) = (k :: l).length), f58_at x ht, f31_same (inAll x) (by omega)]
end Go.V
