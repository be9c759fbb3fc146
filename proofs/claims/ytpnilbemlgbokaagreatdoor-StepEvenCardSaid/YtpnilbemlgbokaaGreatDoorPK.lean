/- A part of the proof of a law of the step table. -/
import Derived.Test.YtpnilbemlgbokaaGreatDoorPA
set_option linter.all false
namespace Go.V
open Go.Proofs
def bl : List Int → List Int → Prop
  | [], [] => False
  | [], _ :: _ => True
  | _ :: _, [] => False
  | a :: l, b :: m => a < b ∨ (a = b ∧ bl l m)
theorem bl_irrefl : ∀ l : List Int, ¬ bl l l
  | [], h => h
  | a :: l, h => by
    rcases h with h | ⟨_, h⟩
    · omega
    · exact bl_irrefl l h
theorem bl_asymm : ∀ l m : List Int, bl l m → ¬ bl m l
  | [], [], h, _ => h
  | [], _ :: _, _, h => h
  | _ :: _, [], h, _ => h
  | a :: l, b :: m, h, h' => by
    rcases h with h | ⟨e, h⟩
    · rcases h' with h' | ⟨e', _⟩ <;> omega
    · rcases h' with h' | ⟨_, h'⟩
      · omega
      · exact bl_asymm l m h h'
theorem bl_app (p : List Int) {l m : List Int} (h : bl l m) : bl (p ++ l) (p ++ m) := by
  induction p with
  | nil => exact h
  | cons a p ih => exact .inr ⟨rfl, ih⟩
theorem sorted_ext : ∀ {l l' : List (List Int)}, l.Pairwise bl → l'.Pairwise bl → (∀ a, a ∈ l ↔ a ∈ l') → l = l'
  | [], [], _, _, _ => rfl
  | [], b :: l', _, _, h => by have := (h b).2 (by simp); cases this
  | a :: l, [], _, _, h => by have := (h a).1 (by simp); cases this
  | a :: l, b :: l', h1, h2, h => by
    obtain ⟨p1, p2⟩ := List.pairwise_cons.1 h1
    obtain ⟨q1, q2⟩ := List.pairwise_cons.1 h2
    have e : a = b := by
      rcases List.mem_cons.1 ((h a).1 (by simp)) with e | ha
      · exact e
      · rcases List.mem_cons.1 ((h b).2 (by simp)) with e | hb
        · exact e.symm
        · exact absurd (q1 a ha) (bl_asymm _ _ (p1 b hb))
    subst e
    have : l = l' := sorted_ext p2 q2 fun c => by
      constructor
      · intro hc
        rcases List.mem_cons.1 ((h c).1 (by simp [hc])) with e | h'
        · subst e; exact absurd (p1 c hc) (bl_irrefl c)
        · exact h'
      · intro hc
        rcases List.mem_cons.1 ((h c).2 (by simp [hc])) with e | h'
        · subst e; exact absurd (q1 c hc) (bl_irrefl c)
        · exact h'
    rw [this]
theorem f31_iff (l m : List Int) (hl : l.length ≤ 1000) (hm : m.length ≤ 1000) : ∃ b, f31 (l, (m, ())) = .ret b ∧ (b = true ↔ l = m) := by
  have hf := fuel_big
  unfold f31 F31; try delta lenI
  by_cases h : (l.length : Int) = m.length
  · simp only [nF h]
    obtain ⟨b, e1, e2⟩ := allLoop (L := fun f i => L31_0 fuel f (l, (m, ())) i) (lo := 0) (len := l.length) (c := true) (fun j => List.getD l j.toNat 0 = List.getD m j.toNat 0)
      (fun f i q1 q2 => by
        try dsimp only
        rw [L31_0_succ]; try delta lenI
        simp (disch := omega) only [dT (show i < (l.length : Int) by omega), inbT, cond_true, wr]
        by_cases q3 : List.getD l i.toNat 0 = List.getD m i.toNat 0
        · left; simp only [nF q3]; exact ⟨q3, (by trivial)⟩
        · right; simp only [nT q3]; exact ⟨q3, (by trivial)⟩)
      (fun f => by
        try dsimp only
        rw [L31_0_succ]; try delta lenI
        simp only [dF (Int.lt_irrefl _)]) l.length fuel 0 (by omega) (by omega) (by omega)
    refine ⟨b, e1, e2.trans ⟨fun q => ext0 (by omega) fun j j1 j2 => q.1 j j1 j2, fun q => ?_⟩⟩
    subst q
    exact ⟨fun _ _ _ => rfl, rfl⟩
  · simp only [nT h]
    exact ⟨false, rfl, ⟨fun q => (by cases q), fun q => absurd (by rw [q]) h⟩⟩
theorem drop_one {l : List Int} {i : Int} (h1 : 0 ≤ i) (h2 : i < l.length) : l.drop i.toNat = List.getD l i.toNat 0 :: l.drop (i + 1).toNat := by
  have h3 : i.toNat < l.length := by omega
  have e : (i + 1).toNat = i.toNat + 1 := by omega
  rw [List.drop_eq_getElem_cons h3, getD_lt h3, e]
theorem f47_at (l m : List Int) (hl : l.length ≤ 1000) (hm : m.length ≤ 1000) : ∃ b, f47 (l, (m, ())) = .ret b ∧ (b = true ↔ bl l m) := by
  have hf := fuel_big
  have key : ∀ (d f : Nat) (i : Int), d < f → 0 ≤ i → i + d = l.length → i ≤ m.length → ∃ b, L47_0 fuel f (l, (m, ())) i = .ret b ∧ (b = true ↔ bl (l.drop i.toNat) (m.drop i.toNat)) := by
    intro d
    induction d with
    | zero =>
      intro f i hf hi he hm'
      obtain ⟨f, rfl⟩ := succ_of hf
      rw [L47_0_succ]; try delta lenI
      simp (disch := omega) only [dF (show ¬ i < (l.length : Int) by omega)]
      have e1 : l.drop i.toNat = [] := List.drop_eq_nil_of_le (by omega)
      refine ⟨_, rfl, ?_⟩
      rw [e1, decide_eq_true_eq]
      by_cases c : i < m.length
      · rw [drop_one hi c]
        exact ⟨fun _ => trivial, fun _ => by omega⟩
      · have e2 : m.drop i.toNat = [] := List.drop_eq_nil_of_le (by omega)
        rw [e2]
        exact ⟨fun h => by omega, fun h => h.elim⟩
    | succ d ih =>
      intro f i hf hi he hm'
      obtain ⟨f, rfl⟩ := succ_of hf
      rw [L47_0_succ]; try delta lenI
      by_cases c : i < m.length
      · rw [drop_one hi (show i < l.length by omega), drop_one hi c]
        simp (disch := omega) only [dT (show i < (l.length : Int) by omega), dT c, inbT, cond_true, wr]
        by_cases q : List.getD l i.toNat 0 = List.getD m i.toNat 0
        · simp only [nF q]
          obtain ⟨b, e1, e2⟩ := ih f (i + 1) (by omega) (by omega) (by omega) (by omega)
          refine ⟨b, e1, e2.trans ⟨fun h => .inr ⟨q, h⟩, fun h => ?_⟩⟩
          rcases h with h | ⟨_, h⟩
          · omega
          · exact h
        · simp only [nT q]
          refine ⟨_, rfl, ?_⟩
          rw [decide_eq_true_eq]
          exact ⟨fun h => .inl h, fun h => by
            rcases h with h | ⟨h, _⟩
            · exact h
            · exact absurd h q⟩
      · have e2 : m.drop i.toNat = [] := List.drop_eq_nil_of_le (by omega)
        rw [drop_one hi (show i < l.length by omega), e2]
        simp (disch := omega) only [dT (show i < (l.length : Int) by omega), dF c]
        refine ⟨_, rfl, ?_⟩
        rw [decide_eq_true_eq]
        exact ⟨fun h => by omega, fun h => h.elim⟩
  exact key l.length fuel 0 (by omega) (by omega) (by omega) (by omega)
theorem bl_total : ∀ l m : List Int, bl l m ∨ l = m ∨ bl m l
  | [], [] => .inr (.inl rfl)
  | [], _ :: _ => .inl trivial
  | _ :: _, [] => .inr (.inr trivial)
  | a :: l, b :: m => by
    rcases Int.lt_trichotomy a b with h | h | h
    · exact .inl (.inl h)
    · subst h
      rcases bl_total l m with h | h | h
      · exact .inl (.inr ⟨rfl, h⟩)
      · subst h; exact .inr (.inl rfl)
      · exact .inr (.inr (.inr ⟨rfl, h⟩))
    · exact .inr (.inr (.inl h))
theorem bl_trans : ∀ l m n : List Int, bl l m → bl m n → bl l n
  | [], [], _, h, _ => h.elim
  | [], _ :: _, [], _, h => h.elim
  | [], _ :: _, _ :: _, _, _ => trivial
  | _ :: _, [], _, h, _ => h.elim
  | _ :: _, _ :: _, [], _, h => h.elim
  | a :: l, b :: m, c :: n, h1, h2 => by
    rcases h1 with h1 | ⟨rfl, h1⟩
    · rcases h2 with h2 | ⟨rfl, h2⟩
      · exact .inl (by omega)
      · exact .inl h1
    · rcases h2 with h2 | ⟨rfl, h2⟩
      · exact .inl h2
      · exact .inr ⟨rfl, bl_trans l m n h1 h2⟩
theorem bl_of_le : ∀ (l m : List Int), l.length = m.length → (∀ i : Nat, i < l.length → (∀ j : Nat, j < i → List.getD l j 0 = List.getD m j 0) → List.getD l i 0 ≤ List.getD m i 0) → l = m ∨ bl l m
  | [], [], _, _ => .inl rfl
  | [], _ :: _, h, _ => by simp at h
  | _ :: _, [], h, _ => by simp at h
  | a :: l, b :: m, h, hh => by
    have h0 : a ≤ b := hh 0 (by simp) (fun j hj => by omega)
    by_cases e : a = b
    · subst e
      rcases bl_of_le l m (by simpa using h) (fun i hi hj => hh (i + 1) (by simpa using hi) (fun j hj' => by
        cases j with
        | zero => rfl
        | succ j => exact hj j (by omega))) with h | h
      · exact .inl (by rw [h])
      · exact .inr (.inr ⟨rfl, h⟩)
    · exact .inr (.inl (by omega))
theorem f97_at (l m : List Int) (hl : l.length ≤ 1000) (hm : m.length ≤ 1000) : ∃ b, f97 (l, (m, ())) = .ret b ∧ (b = true ↔ bl l m) := by
  have hf := fuel_big
  have key : ∀ (d f : Nat) (i : Int), d < f → 0 ≤ i → i + d = l.length → i ≤ m.length → ∃ r, L98_0 fuel f (l, (m, ())) i = .ret r ∧ (r < 0 ↔ bl (l.drop i.toNat) (m.drop i.toNat)) := by
    intro d
    induction d with
    | zero =>
      intro f i hf hi he hm'
      obtain ⟨f, rfl⟩ := succ_of hf
      rw [L98_0_succ]; try delta lenI
      simp (disch := omega) only [dF (show ¬ i < (l.length : Int) by omega)]
      have e1 : l.drop i.toNat = [] := List.drop_eq_nil_of_le (by omega)
      rw [e1]
      by_cases c : i < m.length
      · simp only [dT (show (l.length : Int) < m.length by omega)]
        rw [drop_one hi c]
        exact ⟨_, rfl, ⟨fun _ => trivial, fun _ => by omega⟩⟩
      · simp only [dF (show ¬ (l.length : Int) < m.length by omega)]
        have e2 : m.drop i.toNat = [] := List.drop_eq_nil_of_le (by omega)
        rw [e2]
        exact ⟨_, rfl, ⟨fun h => by omega, fun h => h.elim⟩⟩
    | succ d ih =>
      intro f i hf hi he hm'
      obtain ⟨f, rfl⟩ := succ_of hf
      rw [L98_0_succ]; try delta lenI
      by_cases c : i < m.length
      · rw [drop_one hi (show i < l.length by omega), drop_one hi c]
        have e137 : ∀ a b : Int, f137 (a, (b, ())) = .ret (if a < b then -1 else if a > b then 1 else 0) := fun a b => by
          unfold f137 F137
          simp only [nF (rfl : a = a), nF (rfl : b = b)]
          by_cases q : a < b
          · simp only [dT q, if_pos q]
          · simp only [dF q, if_neg q]
            by_cases q' : a > b
            · simp only [dT q', if_pos q']
            · simp only [dF q', if_neg q']
        simp (disch := omega) only [dT (show i < (l.length : Int) by omega), dF (show ¬ i ≥ (m.length : Int) by omega), inbT, cond_true, wr, e137]
        by_cases q : List.getD l i.toNat 0 = List.getD m i.toNat 0
        · rw [if_neg (by omega), if_neg (by omega)]
          simp only [nF (rfl : (0 : Int) = 0)]
          obtain ⟨b, e1, e2⟩ := ih f (i + 1) (by omega) (by omega) (by omega) (by omega)
          refine ⟨b, e1, e2.trans ⟨fun h => .inr ⟨q, h⟩, fun h => ?_⟩⟩
          rcases h with h | ⟨_, h⟩
          · omega
          · exact h
        · by_cases q' : List.getD l i.toNat 0 < List.getD m i.toNat 0
          · rw [if_pos q']
            exact ⟨_, rfl, ⟨fun _ => .inl q', fun _ => by omega⟩⟩
          · rw [if_neg q', if_pos (by omega)]
            refine ⟨_, rfl, ⟨fun h => by omega, fun h => ?_⟩⟩
            rcases h with h | ⟨h, _⟩ <;> omega
      · have e2 : m.drop i.toNat = [] := List.drop_eq_nil_of_le (by omega)
        rw [drop_one hi (show i < l.length by omega), e2]
        simp (disch := omega) only [dT (show i < (l.length : Int) by omega), dT (show i ≥ (m.length : Int) by omega), inbT (show 0 ≤ i by omega) (show i < l.length by omega), cond_true]
        exact ⟨_, rfl, ⟨fun h => by omega, fun h => h.elim⟩⟩
  obtain ⟨r, e1, e2⟩ := key l.length fuel 0 (by omega) (by omega) (by omega) (by omega)
  have e3 : f98 (l, (m, ())) = .ret r := e1
  unfold f97 F97
  simp only [e3]
  exact ⟨_, rfl, by rw [decide_eq_true_eq]; exact e2⟩
end Go.V
