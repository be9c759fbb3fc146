/- A part of the proof of a law of the step table. -/
import Derived.Test.YtpnilbemlgbokaaGreatDoorS8
import Derived.Test.YtpnilbemlgbokaaGreatDoorSL13
import Derived.Test.YtpnilbemlgbokaaGreatDoorPO
set_option linter.all false
namespace Go.V
open Go.Proofs
theorem loop13 (x : (List (Int × (Int × Unit))) × (Int × (Int × Unit))) (o k m : List Int) (n : Int) (b c : Bool) (ho : o.length ≤ 1000) (hk : k.length ≤ 1000) (hm : m.length ≤ 1000) (h1 : ∀ j ∈ m, j ∈ k) (h2 : b = true → ∀ j ∈ m, j ∈ o)
    (fin : b = true → k.length ≤ o.length ∧ (o.length = k.length → k = o ∨ bl k o) ∧ (o.length = k.length → o ≠ k → n > 1)) :
    ∀ (d f : Nat) (i : Int), d < f → 0 ≤ i → i + d = m.length → L13_0 fuel f (x, (o, ())) (k, (0, ())) (n, (0, ())) (m, (0, ())) (b, (c, ())) i = .ret true := by
  intro d
  induction d with
  | zero =>
    intro f i hf hi he
    obtain ⟨f, rfl⟩ := succ_of hf
    rw [L13_0_succ]; try delta lenI
    simp (disch := omega) only [dF (show ¬ i < (m.length : Int) by omega), known_true, f47v_eq, f31v_eq]
    cases b
    · simp only [Bool.not_false]
    · obtain ⟨g1, g2, g3⟩ := fin rfl
      simp only [Bool.not_true]
      by_cases c1 : (o.length : Int) > k.length
      · simp only [dT c1]
      · have e : o.length = k.length := by omega
        obtain ⟨b1, z1, z2⟩ := f47_at o k ho hk
        have hb1 : b1 = false := by
          cases b1
          · rfl
          · have h := z2.1 rfl
            rcases g2 e with q | q
            · subst q; exact absurd h (bl_irrefl _)
            · exact absurd h (bl_asymm _ _ q)
        subst hb1
        obtain ⟨b2, z3, z4⟩ := f31_iff o k ho hk
        simp only [dF c1, eT (show (o.length : Int) = k.length by omega), z1, z3, Bool.not_false]
        cases b2
        · have : n > 1 := g3 e fun q => by have := z4.2 q; cases this
          simp only [dT this]
        · rfl
  | succ d ih =>
    intro f i hf hi he
    obtain ⟨f, rfl⟩ := succ_of hf
    rw [L13_0_succ]; try delta lenI
    have hmem := getD_mem hi (show i < m.length by omega)
    have next := ih f (i + 1) (by omega) (by omega) (by omega)
    simp (disch := omega) only [dT (show i < (m.length : Int) by omega), inbT, cond_true, f41v_eq, f41_at k _ hk, f41_at o _ ho, dT (h1 _ hmem), Bool.not_true, wr]
    cases b
    · exact next
    · simp only [dT (h2 rfl _ hmem), Bool.not_true]
      exact next
theorem law13 (x : (List (Int × (Int × Unit))) × (Int × (Int × Unit))) (o : List Int) : f13 (x, (o, ())) = .ret true := by
  have hfb := fuel_big
  unfold f13 F13; try delta lenI
  simp only [f22v_eq, f53v_eq, f55v_eq, f56v_eq, f38v_eq, f54v_eq, known_true]
  obtain ⟨b, a1, a2⟩ := f22_at x o
  cases b
  · simp only [a1, Bool.not_false]
  obtain ⟨h16, o16, ht, ho⟩ := a2.1 rfl
  have tl := ht.1
  obtain ⟨k, f1, f2, f3⟩ := f55_at ht
  obtain ⟨hk, hkd⟩ := (AL_mem ht k).1 f1.1
  have kl := kp_len hk
  have ol := kp_len ho
  have hmust := f56_at ht
  have ml : (inAll x).length ≤ x.1.length := dl_len _ _ _
  obtain ⟨b1, g1, g2⟩ := f38_at x k (by omega) (by omega)
  obtain rfl : b1 = true := g2.2 hk
  obtain ⟨c1, g5, g6⟩ := f54_at x ht k hk
  obtain rfl : c1 = true := g6.2 hkd
  obtain ⟨c2, g7, g8⟩ := f54_at x ht o ho
  have hkin : k ∈ As x k := List.mem_filter.2 ⟨f1.1, by simp⟩
  have hn : ¬ ((As x k).length : Int) < 1 := by
    have : 0 < (As x k).length := List.length_pos_of_mem hkin
    omega
  simp only [a1, Bool.not_true, f2, f3, hmust, nF (rfl : (0 : Int) = 0), dF hn, dF (show ¬ (k.length : Int) > x.1.length by omega), g1, dF (show ¬ ((inAll x).length : Int) > x.1.length by omega), g5, g7]
  refine loop13 x o k (inAll x) _ c2 true (by omega) (by omega) (by omega) (fun j hj => (inAll_mem.1 hj).2.2 k f1.1) (fun hb j hj => (inAll_mem.1 hj).2.2 o ((AL_mem ht o).2 ⟨ho, g8.1 hb⟩)) (fun hb => ?_) (inAll x).length fuel 0 (by omega) (by omega) (by omega)
  have hoa := (AL_mem ht o).2 ⟨ho, g8.1 hb⟩
  obtain ⟨z1, z2⟩ := f1.2 o hoa
  refine ⟨z1, z2, fun e hne => ?_⟩
  have hoin : o ∈ As x k := List.mem_filter.2 ⟨hoa, by simp [e]⟩
  have : ¬ (As x k).length ≤ 1 := by
    intro hle
    cases hA : As x k with
    | nil => rw [hA] at hkin; cases hkin
    | cons a l =>
      rw [hA] at hle hkin hoin
      cases l with
      | nil =>
        have h1 := List.mem_singleton.1 hkin
        have h2 := List.mem_singleton.1 hoin
        exact hne (h2.trans h1.symm)
      | cons _ _ => simp at hle
  omega
end Go.V
