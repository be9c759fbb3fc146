/- A part of the proof of a law of the step table. -/
import Derived.Test.YtpnilbemlgbokaaGreatDoorS8
import Derived.Test.YtpnilbemlgbokaaGreatDoorSL3
import Derived.Test.YtpnilbemlgbokaaGreatDoorPA
set_option linter.all false
namespace Go.V
open Go.Proofs
theorem loop3 (x : (List (Int × (Int × Unit))) × (Int × (Int × Unit))) (k u l : List Int) (w row : Int) (b : Bool) (hl : l.length ≤ 1000) (hu : u.length = l.length) (to : 0 ≤ x.2.2.1 ∧ x.2.2.1 ≤ 100)
    (hs : ∀ j : Int, 0 ≤ j → j < l.length → (-9999 ≤ List.getD l j.toNat 0 ∧ List.getD l j.toNat 0 ≤ 9999) ∧ (-9999 ≤ List.getD u j.toNat 0 ∧ List.getD u j.toNat 0 ≤ 9999)) :
    ∀ (m f : Nat) (fine : Bool) (i : Int), m < f → 0 ≤ i → i + m = l.length →
      (b = true ↔ fine = true ∧ ∀ j : Int, i ≤ j → j < l.length → List.getD l j.toNat 0 - List.getD u j.toNat 0 ≤ x.2.2.1 ∧ List.getD u j.toNat 0 - List.getD l j.toNat 0 ≤ x.2.2.1) →
      L3_0 fuel f (x, (k, (u, (w, (row, ()))))) (l, (0, ())) (b, (0, ())) fine i = .ret true := by
  intro m
  induction m with
  | zero =>
    intro f fine i hf hi he hb
    obtain ⟨f, rfl⟩ := succ_of hf
    rw [L3_0_succ]; try delta lenI
    have e : b = fine := Bool.eq_iff_iff.2 (hb.trans ⟨fun h => h.1, fun h => ⟨h, fun j a c => by omega⟩⟩)
    subst e
    simp (disch := omega) only [lenE, dF, beq_self_eq_true, known_true]
  | succ m ih =>
    intro f fine i hf hi he hb
    obtain ⟨f, rfl⟩ := succ_of hf
    rw [L3_0_succ]; try delta lenI
    have s := hs i hi (by omega)
    simp (disch := omega) only [lenE, dT (show i < (l.length : Int) by omega), inbT, cond_true, dF (show ¬ List.getD l i.toNat 0 < -9999 by omega), dF (show ¬ List.getD l i.toNat 0 > 9999 by omega), wr]
    have next : ∀ fine' : Bool, (fine' = true ↔ fine = true ∧ List.getD l i.toNat 0 - List.getD u i.toNat 0 ≤ x.2.2.1 ∧ List.getD u i.toNat 0 - List.getD l i.toNat 0 ≤ x.2.2.1) →
        L3_0 fuel f (x, (k, (u, (w, (row, ()))))) (l, (0, ())) (b, (0, ())) fine' (i + 1) = .ret true := fun fine' hf' => by
      refine ih f fine' (i + 1) (by omega) (by omega) (by omega) (hb.trans ?_)
      rw [hf']
      constructor
      · rintro ⟨q1, q2⟩
        exact ⟨⟨q1, q2 i (by omega) (by omega)⟩, fun j a c => q2 j (by omega) c⟩
      · rintro ⟨⟨q1, q2⟩, q3⟩
        refine ⟨q1, fun j a c => ?_⟩
        by_cases e : j = i
        · subst e; exact q2
        · exact q3 j (by omega) c
    cases fine
    · exact next false (by simp)
    · by_cases h1 : List.getD l i.toNat 0 - List.getD u i.toNat 0 ≤ x.2.2.1
      · simp only [dT h1]
        exact next _ (by rw [decide_eq_true_eq]; exact ⟨fun h => ⟨rfl, h1, h⟩, fun h => h.2.2⟩)
      · simp only [dF h1]
        exact next false ⟨fun h => (by cases h), fun h => absurd h.2.1 h1⟩
theorem law3 (x : (List (Int × (Int × Unit))) × (Int × (Int × Unit))) (k u : List Int) (w row : Int) : f3 (x, (k, (u, (w, (row, ()))))) = .ret true := by
  have hfb := fuel_big
  unfold f3 F3; try delta lenI
  simp only [f22v_eq, f23v_eq, f25v_eq, f26v_eq, f27v_eq, known_true, lenE]
  obtain ⟨b, a1, a2⟩ := f22_at x k
  cases b
  · simp only [a1, Bool.not_false]
  obtain ⟨h16, k16, ht, hk⟩ := a2.1 rfl
  have tl := ht.1
  by_cases h3 : (u.length : Int) > 16
  · simp only [a1, Bool.not_true, dT h3]
  obtain ⟨b, r1, r2, r3⟩ := tru x u (by omega)
  cases b
  · simp only [a1, r1, Bool.not_true, Bool.not_false, dF h3]
  have hu := r3.1 rfl
  have hul := hu.1
  by_cases c1 : w < 0
  · simp only [a1, r1, Bool.not_true, dF h3, dT c1]
  have wk : IntKind.i64.wrap ((k.length : Int) - 1) = (k.length : Int) - 1 := wr (by omega) (by omega)
  by_cases c2 : w ≥ (k.length : Int) - 1
  · simp only [a1, r1, Bool.not_true, dF h3, dF c1, wk, dT c2]
  have ww : IntKind.i64.wrap (w + 1) = w + 1 := wr (by omega) (by omega)
  have i1 : inb w k.length = true := inbT (by omega) (by omega)
  have i2 : inb (w + 1) k.length = true := inbT (by omega) (by omega)
  by_cases c3 : row < List.getD k w.toNat 0
  · simp only [a1, r1, Bool.not_true, dF h3, dF c1, wk, dF c2, i1, cond_true, dT c3]
  by_cases c4 : row > List.getD k (w + 1).toNat 0
  · simp only [a1, r1, Bool.not_true, dF h3, dF c1, wk, dF c2, i1, cond_true, dF c3, ww, i2, dT c4]
  have p1 := kp_range hk (show 0 ≤ w by omega) (show w < k.length by omega)
  have p2 := kp_range hk (show 0 ≤ w + 1 by omega) (show w + 1 < k.length by omega)
  have lt := kp_le hk (show 0 ≤ w by omega) (show w ≤ w + 1 by omega) (show w + 1 < k.length by omega)
  obtain ⟨l, b, q1, q2, q3, q4, q5, q6⟩ := all_in ht hk hu
  have ql := q3.1
  have e1 := (fi_between (r := x.2.1) (u := u) hk (by omega) (show 0 ≤ w by omega) (show w + 1 < k.length by omega) (show List.getD k w.toNat 0 ≤ row by omega) (show row ≤ List.getD k (w + 1).toNat 0 by omega)).1
  have e2 := (fi_between (r := x.2.1) (u := u) hk (by omega) (show 0 ≤ w by omega) (show w + 1 < k.length by omega) (Int.le_refl (List.getD k w.toNat 0)) (by omega)).1
  have e3 := (fi_between (r := x.2.1) (u := u) hk (by omega) (show 0 ≤ w by omega) (show w + 1 < k.length by omega) (show List.getD k w.toNat 0 ≤ List.getD k (w + 1).toNat 0 by omega) (Int.le_refl _)).1
  rw [fig_left (by omega)] at e2
  rw [fig_right (by omega)] at e3
  have g1 : List.getD l row.toNat 0 = Fi x.2.1 k row u := q3.2 row (by omega) (by omega)
  have g2 : List.getD l (List.getD k w.toNat 0).toNat 0 = Fi x.2.1 k (List.getD k w.toNat 0) u := q3.2 (List.getD k w.toNat 0) (by omega) (by omega)
  have g3 : List.getD l (List.getD k (w + 1).toNat 0).toNat 0 = Fi x.2.1 k (List.getD k (w + 1).toNat 0) u := q3.2 (List.getD k (w + 1).toNat 0) (by omega) (by omega)
  rw [e1] at g1
  rw [e2] at g2
  rw [e3] at g3
  simp only [a1, r1, Bool.not_true, dF h3, dF c1, wk, dF c2, i1, cond_true, dF c3, ww, i2, dF c4, q1, q4]
  generalize ha : List.getD k w.toNat 0 = a at *
  generalize hb : List.getD k (w + 1).toNat 0 = c at *
  have sa := tr_small ht hu (show 0 ≤ a by omega) (by omega)
  have sc := tr_small ht hu (show 0 ≤ c by omega) (by omega)
  generalize hua : List.getD u a.toNat 0 = ua at *
  generalize huc : List.getD u c.toNat 0 = uc at *
  obtain ⟨z1, z2, z3⟩ := prods (b := a) (a := c) (row := row) (one := ua) (oth := uc) (by omega) (by omega) (by omega) (by omega) (by omega) (by omega) (by omega) (by omega)
  have w1 : IntKind.i64.wrap (c - row) = c - row := wr (by omega) (by omega)
  have w2 : IntKind.i64.wrap (row - a) = row - a := wr (by omega) (by omega)
  have w3 : IntKind.i64.wrap (ua * (c - row)) = ua * (c - row) := wr (by omega) (by omega)
  have w4 : IntKind.i64.wrap (uc * (row - a)) = uc * (row - a) := wr (by omega) (by omega)
  have w5 : IntKind.i64.wrap (ua * (c - row) + uc * (row - a)) = ua * (c - row) + uc * (row - a) := wr (by omega) (by omega)
  have w6 : IntKind.i64.wrap (c - a) = c - a := wr (by omega) (by omega)
  have e27 : f27 (ua * (c - row) + uc * (row - a), (c - a, (x.2.1, ()))) = .ret (fig x.2.1 a c row ua uc, (0, ())) := by
    unfold f27
    rw [f27_at _ _ _ _ (by omega) (by omega) (by omega) (by omega) ht.2.1.1 ht.2.1.2]
    rfl
  have j1 : inb a u.length = true := inbT (by omega) (by omega)
  have j2 : inb c u.length = true := inbT (by omega) (by omega)
  have j3 : inb row l.length = true := inbT (by omega) (by omega)
  have j4 : inb a l.length = true := inbT (by omega) (by omega)
  have j5 : inb c l.length = true := inbT (by omega) (by omega)
  have bd : ¬ (fig x.2.1 a c row ua uc < if uc < ua then uc else ua) ∧ ¬ (fig x.2.1 a c row ua uc > if uc > ua then uc else ua) := by
    by_cases q : ua ≤ uc
    · have := fig_bd (r := x.2.1) (b := a) (a := c) (row := row) (one := ua) (oth := uc) (lo := ua) (hi := uc) (by omega) (by omega) (by omega) (by omega) (by omega) (by omega) (by omega)
      constructor <;> split <;> omega
    · have := fig_bd (r := x.2.1) (b := a) (a := c) (row := row) (one := ua) (oth := uc) (lo := uc) (hi := ua) (by omega) (by omega) (by omega) (by omega) (by omega) (by omega) (by omega)
      constructor <;> split <;> omega
  simp only [nF (rfl : (0 : Int) = 0), nF (show (l.length : Int) = u.length by omega), j1, j2, j3, j4, j5, cond_true, w1, w2, w3, w4, w5, w6, e27, g1, g2, g3, nF (rfl : fig x.2.1 a c row ua uc = _), nF (rfl : ua = ua), nF (rfl : uc = uc), dF bd.1, dF bd.2]
  refine loop3 x k u l w row b (by omega) (by omega) ht.2.2.1 (fun j j1 j2 => ⟨?_, tr_small ht hu j1 (by omega)⟩) l.length fuel true 0 (by omega) (by omega) (by omega) (q6.trans ⟨fun h => ⟨rfl, fun j j1 j2 => ?_⟩, fun h j j1 j2 => ?_⟩)
  · rw [q3.2 j j1 (by omega)]
    exact fi_small hk (by omega) (tr_sm ht hu) j1 (by omega)
  · have := h j j1 (by omega)
    unfold Ok at this
    rw [q3.2 j j1 (by omega)]
    exact this
  · have := h.2 j j1 (by omega)
    rw [q3.2 j j1 (by omega)] at this
    exact this
end Go.V
