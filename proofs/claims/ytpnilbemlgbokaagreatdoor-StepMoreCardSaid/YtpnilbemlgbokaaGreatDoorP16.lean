/- A part of the proof of a law of the step table. -/
import Derived.Test.YtpnilbemlgbokaaGreatDoorS8
import Derived.Test.YtpnilbemlgbokaaGreatDoorSL16
import Derived.Test.YtpnilbemlgbokaaGreatDoorPO
set_option linter.all false
namespace Go.V
open Go.Proofs
theorem loop16 (k m : List Int) (hk : k.length ≤ 1000) (hm : m.length ≤ 1000) (h1 : ∀ j ∈ m, j ∈ k) : ∀ (d f : Nat) (i : Int), d < f → 0 ≤ i → i + d = m.length → L16_0 fuel f (k, (0, ())) (m, (0, ())) i = .ret true := by
  intro d
  induction d with
  | zero =>
    intro f i hf hi he
    obtain ⟨f, rfl⟩ := succ_of hf
    rw [L16_0_succ]; try delta lenI
    simp only [dF (show ¬ i < (m.length : Int) by omega), known_true]
  | succ d ih =>
    intro f i hf hi he
    obtain ⟨f, rfl⟩ := succ_of hf
    rw [L16_0_succ]; try delta lenI
    have hmem := getD_mem hi (show i < m.length by omega)
    simp (disch := omega) only [dT (show i < (m.length : Int) by omega), inbT, cond_true, f41v_eq, f41_at k _ hk, dT (h1 _ hmem), Bool.not_true, wr]
    exact ih f (i + 1) (by omega) (by omega) (by omega)
theorem law16 (x : (List (Int × (Int × Unit))) × (Int × (Int × Unit))) (k : List Int) (row : Int) (s : Int × (Int × Unit)) (m : Int) : f16 (x, (k, (row, (s, (m, ()))))) = .ret true := by
  have hfb := fuel_big
  unfold f16 F16; try delta lenI
  simp only [f22v_eq, f35v_eq, f54v_eq, f56v_eq, f53v_eq, known_true]
  obtain ⟨b, a1, a2⟩ := f22_at x k
  cases b
  · simp only [a1, Bool.not_false]
  obtain ⟨h16, k16, ht, hk⟩ := a2.1 rfl
  have tl := ht.1
  have e35 : f35 (x, (row, ())) = .ret (decide (0 ≤ row ∧ row ≤ (x.1.length : Int) - 1)) := by
    unfold f35 F35; try delta lenI
    simp only [i72, wr (show -9223372036854775808 ≤ (x.1.length : Int) - 1 by omega) (show (x.1.length : Int) - 1 ≤ 9223372036854775807 by omega)]
  by_cases c0 : 0 ≤ row ∧ row ≤ (x.1.length : Int) - 1
  rotate_left
  · simp only [a1, Bool.not_true, e35, dF c0, Bool.not_false]
  simp only [a1, Bool.not_true, e35, dT c0, inbT c0.1 (show row < x.1.length by omega), cond_true]
  by_cases c1 : s.1 < (sp' x row).1
  · simp only [dT c1]
  by_cases c2 : s.2.1 > (sp' x row).2.1
  · simp only [dF c1, dT c2]
  by_cases c3 : s.1 > s.2.1
  · simp only [dF c1, dF c2, dT c3]
  by_cases c4 : m < 0
  · simp only [dF c1, dF c2, dF c3, dT c4]
  by_cases c5 : m > 100
  · simp only [dF c1, dF c2, dF c3, dF c4, dT c5]
  have i1 : in16a x.1 = true := fitsT (by simp; omega)
  have i2 : in16b x.1 row = true := inbT c0.1 (by omega)
  have i3 : in16c x.1 row = true := decide_eq_true (by omega)
  have l1 : (set16 x.1 row s.1).length = x.1.length := by unfold set16; exact List.length_set
  have e1 : List.set (set16 x.1 row s.1) row.toNat s = x.1.set row.toNat s := by unfold set16; exact List.set_set ..
  have to := ht.2.2.1
  have wo : IntKind.i64.wrap (x.2.2.1 + m) = x.2.2.1 + m := wr (by omega) (by omega)
  obtain ⟨o, ho⟩ : ∃ o, o = if x.2.2.1 + m < 100 then x.2.2.1 + m else 100 := ⟨_, rfl⟩
  have o1 : x.2.2.1 ≤ o ∧ o ≤ 100 := by rw [ho]; split <;> omega
  obtain ⟨hy, hn⟩ := nw_set ht (r := row) (o := o) (s := s) c0.1 (by omega) (by omega) (by omega) (by omega) o1.1 o1.2
  obtain ⟨y, hyd⟩ : ∃ y, y = (x.1.set row.toNat s, (x.2.1, (o, ()))) := ⟨_, rfl⟩
  rw [← hyd] at hy hn
  have hky : Kp k y.1.length := by rw [hn.len]; exact hk
  obtain ⟨s1, f1, f2⟩ := f54_at x ht k hk
  obtain ⟨s2, f3, f4⟩ := f54_at y hy k hky
  obtain ⟨kx, _, g1, g2⟩ := few_of ht
  obtain ⟨ky, _, g3, g4⟩ := few_of hy
  obtain ⟨m1, m2⟩ := inAll_mono hn ht hy
  have fm := few_mono hn ht hy g1 g3
  have ml : (inAll x).length ≤ x.1.length := dl_len _ _ _
  have loop := loop16 (inAll x) (inAll y) (by omega) (by omega) m2 (inAll y).length fuel 0 (by omega) (by omega) (by omega)
  have q := dub_mono hn ht hk
  simp only [dF c1, dF c2, dF c3, dF c4, dF c5, i1, i2, i3, cond_true, l1, inbT c0.1 (show row < x.1.length by omega), dT (show row.toNat < x.1.length by omega), e1, wo, ← ho, ← hyd, f1, f3, f56_at ht, f56_at hy, g2, g4, Bool.not_true, nF (rfl : (0 : Int) = 0),
    dF (show ¬ ((inAll x).length : Int) > x.1.length by omega), dF (show ¬ ((inAll y).length : Int) > (inAll x).length by omega), dF (show ¬ (ky.length : Int) > kx.length by omega), loop]
  cases s1
  · rfl
  · have : s2 = true := f4.2 (q (f2.1 rfl))
    subst this
    rfl
end Go.V
