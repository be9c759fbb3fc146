/- A part of the proof of a law of the step table. -/
import Derived.Test.YtpnilbemlgbokaaGreatDoorS8
import Derived.Test.YtpnilbemlgbokaaGreatDoorSL7
import Derived.Test.YtpnilbemlgbokaaGreatDoorPA
set_option linter.all false
namespace Go.V
open Go.Proofs
theorem loop7 (x : (List (Int × (Int × Unit))) × (Int × (Int × Unit))) (k u l d : List Int) (w : Int) (b : Bool) (hl : l.length ≤ 1000) (hkl : k.length ≤ 1000) (hdl : d.length ≤ 1000) (hu : u.length = l.length) (to : 0 ≤ x.2.2.1 ∧ x.2.2.1 ≤ 100)
    (hs : ∀ j : Int, 0 ≤ j → j < l.length → (-9999 ≤ List.getD l j.toNat 0 ∧ List.getD l j.toNat 0 ≤ 9999) ∧ (-9999 ≤ List.getD u j.toNat 0 ∧ List.getD u j.toNat 0 ≤ 9999))
    (H : ∀ j : Int, 0 ≤ j → j < l.length → ((List.getD l j.toNat 0 - List.getD u j.toNat 0 > x.2.2.1 ∨ List.getD u j.toNat 0 - List.getD l j.toNat 0 > x.2.2.1) → b = false ∧ j ∈ d) ∧ (j ∈ d → j ∉ k))
    (e1 : b = true → w ≠ 1) (e2 : b = false → w ≠ 3) (e3 : w ≠ 1 ∨ b = false) :
    ∀ (m f : Nat) (i : Int), m < f → 0 ≤ i → i + m = l.length →
      L7_0 fuel f (x, (k, (u, ()))) (w, (0, ())) (d, (0, ())) (l, (0, ())) (b, (0, ())) i = .ret true := by
  intro m
  induction m with
  | zero =>
    intro f i hf hi he
    obtain ⟨f, rfl⟩ := succ_of hf
    rw [L7_0_succ]; try delta lenI
    simp (disch := omega) only [lenE, dF, known_true]
    cases b
    · simp only [nT (e2 rfl), Bool.not_false]
    · simp only [nT (e1 rfl), Bool.not_true]
  | succ m ih =>
    intro f i hf hi he
    obtain ⟨f, rfl⟩ := succ_of hf
    rw [L7_0_succ]; try delta lenI
    have s := hs i hi (by omega)
    obtain ⟨H1, H2⟩ := H i hi (by omega)
    have next := ih f (i + 1) (by omega) (by omega) (by omega)
    simp (disch := omega) only [lenE, dT (show i < (l.length : Int) by omega), inbT, cond_true, dF (show ¬ List.getD l i.toNat 0 < -9999 by omega), dF (show ¬ List.getD l i.toNat 0 > 9999 by omega), wr, f41v_eq, f41_at d i hdl, f41_at k i hkl]
    by_cases h1 : List.getD l i.toNat 0 - List.getD u i.toNat 0 > x.2.2.1
    · obtain ⟨hb, hd⟩ := H1 (.inl h1)
      subst hb
      simp only [dT h1, dT hd, dF (H2 hd), Bool.not_true]
      exact next
    · by_cases h2 : List.getD u i.toNat 0 - List.getD l i.toNat 0 > x.2.2.1
      · obtain ⟨hb, hd⟩ := H1 (.inr h2)
        subst hb
        simp only [dF h1, dT h2, dT hd, dF (H2 hd), Bool.not_true]
        exact next
      · by_cases hd : i ∈ d
        · simp only [dF h1, dF h2, dT hd, dF (H2 hd)]
          exact next
        · simp only [dF h1, dF h2, dF hd]
          exact next
theorem law7 (x : (List (Int × (Int × Unit))) × (Int × (Int × Unit))) (k u : List Int) : f7 (x, (k, (u, ()))) = .ret true := by
  have hfb := fuel_big
  unfold f7 F7; try delta lenI
  simp only [f22v_eq, f23v_eq, f25v_eq, f26v_eq, f36v_eq, f37v_eq, known_true, lenE]
  obtain ⟨b, a1, a2⟩ := f22_at x k
  cases b
  · simp only [a1, Bool.not_false]
  obtain ⟨h16, k16, ht, hk⟩ := a2.1 rfl
  have tl := ht.1
  by_cases h3 : (u.length : Int) > 16
  · simp only [a1, Bool.not_true, dT h3]
  obtain ⟨b, r1, r2, r3⟩ := tru x u (by omega)
  cases b
  · simp only [a1, r1, Bool.not_true, Bool.not_false, dF h3]
  have hu := r3.1 rfl
  have hul := hu.1
  have hkl := kp_len hk
  obtain ⟨l, b, q1, q2, q3, q4, q5, q6⟩ := all_in ht hk hu
  have ql := q3.1
  obtain ⟨w, w1, w2, w3, w4, w5, w6, w7⟩ := words_at x ht k hk (by omega)
  have dlen := dub_len x k
  have g1 : ((w == 3) != (((dub x k).length : Int) == 0)) = false := by
    by_cases h : dub x k = []
    · rw [w6.2 h, h]; rfl
    · have : ¬ w = 3 := fun e => h (w6.1 e)
      have : 0 < (dub x k).length := ne_len.1 h
      rw [eF (by omega), eF (by omega)]; rfl
  simp only [a1, r1, Bool.not_true, dF h3, q1, q4, w1, w3, nF (rfl : (0 : Int) = 0), nF (show (l.length : Int) = u.length by omega), dF (show ¬ ((dub x k).length : Int) > u.length by omega), dF (show ¬ w < 1 by omega), dF (show ¬ w > 3 by omega), g1]
  refine loop7 x k u l (dub x k) w b (by omega) (by omega) (by omega) (by omega) ht.2.2.1 (fun j j1 j2 => ⟨?_, tr_small ht hu j1 (by omega)⟩) (fun j j1 j2 => ⟨fun h => ?_, fun hd hm => ?_⟩) (fun hb => ?_) (fun hb h3 => ?_) ?_ l.length fuel 0 (by omega) (by omega) (by omega)
  · rw [q3.2 j j1 (by omega)]
    exact fi_small hk (by omega) (tr_sm ht hu) j1 (by omega)
  · have e : List.getD l j.toNat 0 = Fi x.2.1 k j u := q3.2 j j1 (by omega)
    rw [e] at h
    have no : ¬ Ok x k u j := fun o => by unfold Ok at o; omega
    constructor
    · cases b
      · rfl
      · exact absurd (q6.1 rfl j j1 (by omega)) no
    · exact Classical.byContradiction fun hd => no (sure_right ht hk (by omega) hu j1 (by omega) hd)
  · have := (dub_mem.1 hd).2.2
    have := fa_kept (x := x) hk (by omega) hm
    have := ht.2.2.1
    omega
  · intro e
    exact right_may ht hk (by omega) hu (q6.1 hb) (w7.1 e).2
  · have hd := w6.1 h3
    subst hb
    have : (false : Bool) = true := q6.2 fun j j1 j2 => sure_right ht hk (by omega) hu j1 j2 (by rw [hd]; simp)
    cases this
  · cases b
    · exact .inr rfl
    · exact .inl fun e => right_may ht hk (by omega) hu (q6.1 rfl) (w7.1 e).2
end Go.V
