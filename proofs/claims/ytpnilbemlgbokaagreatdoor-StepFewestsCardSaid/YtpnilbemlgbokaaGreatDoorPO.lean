/- A part of the proof of a law of the step table. -/
import Derived.Test.YtpnilbemlgbokaaGreatDoorPN
set_option linter.all false
namespace Go.V
open Go.Proofs
theorem f31_iff (l m : List Int) (hl : l.length ≤ 1000) (hm : m.length ≤ 1000) : ∃ b, f31 (l, (m, ())) = .ret b ∧ (b = true ↔ l = m) := by
  have hf := fuel_big
  unfold f31 F31; try delta lenI
  by_cases h : (l.length : Int) = m.length
  · simp only [nF h]
    obtain ⟨b, e1, e2⟩ := allLoop (L := fun f i => L31_0 fuel f (l, (m, ())) i) (lo := 0) (len := l.length) (c := true) (fun j => List.getD l j.toNat 0 = List.getD m j.toNat 0)
      (fun f i q1 q2 => by
        try dsimp only
        rw [L31_0_succ]; try delta lenI
        simp (disch := omega) only [dT (show i < (l.length : Int) by omega), inbT, cond_true, wr]
        by_cases q3 : List.getD l i.toNat 0 = List.getD m i.toNat 0
        · left; simp only [nF q3]; exact ⟨q3, (by trivial)⟩
        · right; simp only [nT q3]; exact ⟨q3, (by trivial)⟩)
      (fun f => by
        try dsimp only
        rw [L31_0_succ]; try delta lenI
        simp only [dF (Int.lt_irrefl _)]) l.length fuel 0 (by omega) (by omega) (by omega)
    refine ⟨b, e1, e2.trans ⟨fun q => ext0 (by omega) fun j j1 j2 => q.1 j j1 j2, fun q => ?_⟩⟩
    subst q
    exact ⟨fun _ _ _ => rfl, rfl⟩
  · simp only [nT h]
    exact ⟨false, rfl, ⟨fun q => (by cases q), fun q => absurd (by rw [q]) h⟩⟩
theorem drop_one {l : List Int} {i : Int} (h1 : 0 ≤ i) (h2 : i < l.length) : l.drop i.toNat = List.getD l i.toNat 0 :: l.drop (i + 1).toNat := by
  have h3 : i.toNat < l.length := by omega
  have e : (i + 1).toNat = i.toNat + 1 := by omega
  rw [List.drop_eq_getElem_cons h3, getD_lt h3, e]
theorem f47_at (l m : List Int) (hl : l.length ≤ 1000) (hm : m.length ≤ 1000) : ∃ b, f47 (l, (m, ())) = .ret b ∧ (b = true ↔ bl l m) := by
  have hf := fuel_big
  have key : ∀ (d f : Nat) (i : Int), d < f → 0 ≤ i → i + d = l.length → i ≤ m.length → ∃ b, L47_0 fuel f (l, (m, ())) i = .ret b ∧ (b = true ↔ bl (l.drop i.toNat) (m.drop i.toNat)) := by
    intro d
    induction d with
    | zero =>
      intro f i hf hi he hm'
      obtain ⟨f, rfl⟩ := succ_of hf
      rw [L47_0_succ]; try delta lenI
      simp (disch := omega) only [dF (show ¬ i < (l.length : Int) by omega)]
      have e1 : l.drop i.toNat = [] := List.drop_eq_nil_of_le (by omega)
      refine ⟨_, rfl, ?_⟩
      rw [e1, decide_eq_true_eq]
      by_cases c : i < m.length
      · rw [drop_one hi c]
        exact ⟨fun _ => trivial, fun _ => by omega⟩
      · have e2 : m.drop i.toNat = [] := List.drop_eq_nil_of_le (by omega)
        rw [e2]
        exact ⟨fun h => by omega, fun h => h.elim⟩
    | succ d ih =>
      intro f i hf hi he hm'
      obtain ⟨f, rfl⟩ := succ_of hf
      rw [L47_0_succ]; try delta lenI
      by_cases c : i < m.length
      · rw [drop_one hi (show i < l.length by omega), drop_one hi c]
        simp (disch := omega) only [dT (show i < (l.length : Int) by omega), dT c, inbT, cond_true, wr]
        by_cases q : List.getD l i.toNat 0 = List.getD m i.toNat 0
        · simp only [nF q]
          obtain ⟨b, e1, e2⟩ := ih f (i + 1) (by omega) (by omega) (by omega) (by omega)
          refine ⟨b, e1, e2.trans ⟨fun h => .inr ⟨q, h⟩, fun h => ?_⟩⟩
          rcases h with h | ⟨_, h⟩
          · omega
          · exact h
        · simp only [nT q]
          refine ⟨_, rfl, ?_⟩
          rw [decide_eq_true_eq]
          exact ⟨fun h => .inl h, fun h => by
            rcases h with h | ⟨h, _⟩
            · exact h
            · exact absurd h q⟩
      · have e2 : m.drop i.toNat = [] := List.drop_eq_nil_of_le (by omega)
        rw [drop_one hi (show i < l.length by omega), e2]
        simp (disch := omega) only [dT (show i < (l.length : Int) by omega), dF c]
        refine ⟨_, rfl, ?_⟩
        rw [decide_eq_true_eq]
        exact ⟨fun h => by omega, fun h => h.elim⟩
  exact key l.length fuel 0 (by omega) (by omega) (by omega) (by omega)
end Go.V
