/- A part of the proof of a law of the step table. -/
import Derived.Test.YtpnilbemlgbokaaGreatDoorS3
set_option linter.all false
namespace Go.V
open Go.Proofs
theorem wr {x : Int} (h1 : -9223372036854775808 ≤ x) (h2 : x ≤ 9223372036854775807) : IntKind.i64.wrap x = x := by
  unfold IntKind.wrap
  simp only [IntKind.bits, IntKind.signed]
  simp
  split <;> omega
theorem tq (n p : Int) (hp : 0 < p) : ∃ m, n = n.tdiv p * p + m ∧ -p < m ∧ m < p ∧ (0 ≤ n → 0 ≤ m) ∧ (n < 0 → m ≤ 0) := by
  refine ⟨n.tmod p, ?_, ?_, Int.tmod_lt_of_pos n hp, fun h => Int.tmod_nonneg p h, fun h => ?_⟩
  · have := Int.tdiv_mul_add_tmod n p; omega
  · have h := Int.tmod_lt_of_pos (-n) hp
    rw [Int.neg_tmod] at h; omega
  · have := Int.tmod_nonneg (a := -n) p (by omega)
    rw [Int.neg_tmod] at this; omega
theorem tq_small {n p : Int} (hp : 0 < p) {B : Int} (h1 : -B ≤ n) (h2 : n ≤ B) : -B ≤ n.tdiv p ∧ n.tdiv p ≤ B := by
  have := Int.natAbs_tdiv_le_natAbs n p
  omega
theorem fl (n p : Int) (hp : 0 < p) : ∃ R, n = n / p * p + R ∧ 0 ≤ R ∧ R < p := 
  ⟨n % p, (Int.ediv_mul_add_emod n p).symm, Int.emod_nonneg n (by omega), Int.emod_lt_of_pos n hp⟩
noncomputable def rnd (k R p r : Int) : Int :=
  if r = 2 then (if 0 < R then k + 1 else k)
  else if r = 3 then (if p ≤ 2 * R then k + 1 else k)
  else if r = 4 then (if p < 2 * R then k + 1 else if 2 * R = p ∧ k.tmod 2 ≠ 0 then k + 1 else k)
  else k
theorem tail (k R p r : Int) (h1 : -9000000 ≤ k) (h2 : k ≤ 9000000) (a : 0 ≤ R) (b : R < p) (c : p ≤ 1000) :
    (match (r == (2 : Int)) with
      | true =>
        match (decide (R > (0 : Int))) with
        | true =>
          .ret (IntKind.i64.wrap (k + (1 : Int)))
        | false =>
          .ret k
      | false =>
        match (r == (3 : Int)) with
        | true =>
          match (decide ((IntKind.i64.wrap ((2 : Int) * R)) ≥ p)) with
          | true =>
            .ret (IntKind.i64.wrap (k + (1 : Int)))
          | false =>
            .ret k
        | false =>
          match (r == (4 : Int)) with
          | true =>
            match (decide ((IntKind.i64.wrap ((2 : Int) * R)) > p)) with
            | true =>
              .ret (IntKind.i64.wrap (k + (1 : Int)))
            | false =>
              match ((IntKind.i64.wrap ((2 : Int) * R)) == p) with
              | true =>
                match ((k.tmod (2 : Int)) != (0 : Int)) with
                | true =>
                  .ret (IntKind.i64.wrap (k + (1 : Int)))
                | false =>
                  .ret k
              | false =>
                .ret k
          | false =>
            .ret k : Out Int) = .ret (rnd k R p r) := by
  simp (disch := omega) only [wr]
  unfold rnd
  by_cases r2 : r = 2
  · subst r2
    by_cases h : 0 < R <;> simp [h]
  have e2 : (r == 2) = false := by simp [r2]
  rw [if_neg r2, e2]
  by_cases r3 : r = 3
  · subst r3
    by_cases h : p ≤ 2 * R <;> simp [h]
  have e3 : (r == 3) = false := by simp [r3]
  rw [if_neg r3]
  simp only [e3]
  by_cases r4 : r = 4
  · subst r4
    by_cases h : p < 2 * R
    · simp [h]
    · by_cases h' : 2 * R = p
      · have e5 : (2 * R == p) = true := by simp [h']
        by_cases h'' : k.tmod 2 = 0
        · have e6 : (k.tmod 2 != 0) = false := by simp [h'']
          simp [h, e5, e6, h'']
        · have e6 : (k.tmod 2 != 0) = true := by simp [h'']
          simp [h, e5, e6, h', h'']
      · have e5 : (2 * R == p) = false := by simp [h']
        simp [h, e5, h']
  have e4 : (r == 4) = false := by simp [r4]
  rw [if_neg r4]
  simp only [e4]
theorem in_at (N : Nat) (a b c : Int) : F83 N (a, (b, (c, ()))) = .ret (decide (b ≤ a ∧ a ≤ c)) ∧ F86 N (a, (b, (c, ()))) = .ret (decide (b ≤ a ∧ a ≤ c)) ∧ F72 N (a, (b, (c, ()))) = .ret (decide (b ≤ a ∧ a ≤ c)) := by
  unfold F83 F86 F72
  by_cases h : b ≤ a <;> simp [h]
theorem rule_at (N : Nat) (a : Int) : F84 N (a, ()) = .ret (decide (1 ≤ a ∧ a ≤ 4)) ∧ F87 N (a, ()) = .ret (decide (1 ≤ a ∧ a ≤ 4)) ∧ F30 N (a, ()) = .ret (decide (1 ≤ a ∧ a ≤ 4)) := by
  unfold F84 F87 F30
  by_cases h : 1 ≤ a <;> simp [h]
theorem fuel_big : 1000000 ≤ fuel := by unfold fuel; decide
end Go.V
namespace Go.V
open Go.Proofs
theorem inbT {i : Int} {n : Nat} (h1 : 0 ≤ i) (h2 : i < n) : inb i n = true := by
  unfold inb; simp [h1, h2]
theorem lenE {α : Type} (l : List α) : lenI l = (l.length : Int) := rfl
theorem dT {p : Prop} [Decidable p] (h : p) : decide p = true := decide_eq_true h
theorem dF {p : Prop} [Decidable p] (h : ¬ p) : decide p = false := decide_eq_false h
theorem eT {a b : Int} (h : a = b) : (a == b) = true := by simp [h]
theorem eF {a b : Int} (h : a ≠ b) : (a == b) = false := by simp [h]
theorem nT {a b : Int} (h : a ≠ b) : (a != b) = true := by simp [h]
theorem nF {a b : Int} (h : a = b) : (a != b) = false := by simp [h]
theorem fitsT {α : Type} {xs ys : List α} (h : xs.length + ys.length < 1000000) : fits xs ys = true := by unfold fits; simp [h]
theorem i72 (a b c : Int) : f72 (a, (b, (c, ()))) = .ret (decide (b ≤ a ∧ a ≤ c)) := (in_at _ _ _ _).2.2
theorem i86 (a b c : Int) : f86 (a, (b, (c, ()))) = .ret (decide (b ≤ a ∧ a ≤ c)) := (in_at _ _ _ _).2.1
theorem r30 (a : Int) : f30 (a, ()) = .ret (decide (1 ≤ a ∧ a ≤ 4)) := (rule_at _ _).2.2
theorem r87 (a : Int) : f87 (a, ()) = .ret (decide (1 ≤ a ∧ a ≤ 4)) := (rule_at _ _).2.1
theorem succ_of {m n : Nat} (h : m < n) : ∃ k, n = k + 1 := ⟨n - 1, by omega⟩
theorem allLoop {L : Nat → Int → Out Bool} {lo len : Int} {c : Bool} (P : Int → Prop)
    (step : ∀ n i, lo ≤ i → i < len → (P i ∧ L (n + 1) i = L n (i + 1)) ∨ (¬ P i ∧ L (n + 1) i = .ret false))
    (done : ∀ n, L (n + 1) len = .ret c) :
    ∀ (m n : Nat) (i : Int), m < n → lo ≤ i → i + m = len → ∃ b, L n i = .ret b ∧ (b = true ↔ (∀ j, i ≤ j → j < len → P j) ∧ c = true) := by
  intro m
  induction m with
  | zero =>
    intro n i hn hi he
    obtain ⟨n, rfl⟩ := succ_of hn
    obtain rfl : i = len := by omega
    exact ⟨c, done n, ⟨fun h => ⟨fun j a b => by omega, h⟩, fun h => h.2⟩⟩
  | succ m ih =>
    intro n i hn hi he
    obtain ⟨n, rfl⟩ := succ_of hn
    rcases step n i hi (by omega) with ⟨hp, e⟩ | ⟨hp, e⟩
    · obtain ⟨b, h1, h2⟩ := ih n (i + 1) (by omega) (by omega) (by omega)
      refine ⟨b, e.trans h1, h2.trans ⟨fun q => ⟨fun j a d => ?_, q.2⟩, fun q => ⟨fun j a d => q.1 j (by omega) d, q.2⟩⟩⟩
      by_cases e : j = i
      · subst e; exact hp
      · exact q.1 j (by omega) d
    · refine ⟨false, e, ⟨fun h => (by cases h), fun q => absurd (q.1 i (by omega) (by omega)) hp⟩⟩
def Sp (s : Int × (Int × Unit)) : Prop := (-9999 ≤ s.1 ∧ s.1 ≤ 9999) ∧ (s.1 ≤ s.2.1 ∧ s.2.1 ≤ 9999) ∧ s.2.1 - s.1 ≤ 4
def Tb (x : (List (Int × (Int × Unit))) × (Int × (Int × Unit))) : Prop :=
  (2 ≤ x.1.length ∧ x.1.length ≤ 13) ∧ (1 ≤ x.2.1 ∧ x.2.1 ≤ 4) ∧ (0 ≤ x.2.2.1 ∧ x.2.2.1 ≤ 100) ∧ ∀ j : Int, 0 ≤ j → j < x.1.length → Sp (List.getD x.1 j.toNat ((0 : Int), ((0 : Int), ())))
theorem f124_at (s : Int × (Int × Unit)) : ∃ b, f124 (s, ()) = .ret b ∧ (b = true ↔ ¬ Sp s) := by
  unfold f124 F124; try delta lenI
  simp only [i86]
  by_cases h1 : -9999 ≤ s.1 ∧ s.1 ≤ 9999
  · simp only [dT h1, Bool.not_true]
    by_cases h2 : s.1 ≤ s.2.1 ∧ s.2.1 ≤ 9999
    · simp (disch := omega) only [dT h2, Bool.not_true, wr]
      refine ⟨_, rfl, ?_⟩
      unfold Sp
      simp [h1, h2]
    · simp only [dF h2, Bool.not_false]
      refine ⟨_, rfl, ?_⟩
      unfold Sp
      simp only [true_iff]; exact fun h => h2 h.2.1
  · simp only [dF h1, Bool.not_false]
    refine ⟨_, rfl, ?_⟩
    unfold Sp
    simp only [true_iff]; exact fun h => h1 h.1
theorem f89_at (s : Int × (Int × Unit)) : ∃ b, f89 (s, ()) = .ret b ∧ (b = true ↔ Sp s) := by
  unfold f89 F89; try delta lenI
  simp only [i72]
  by_cases h1 : -9999 ≤ s.1 ∧ s.1 ≤ 9999
  · simp (disch := omega) only [dT h1, wr]
    refine ⟨_, rfl, ?_⟩
    unfold Sp
    simp only [decide_eq_true_eq, h1, true_and]
    split <;> omega
  · simp only [dF h1]
    refine ⟨_, rfl, ?_⟩
    unfold Sp
    simp only [Bool.false_eq_true, false_iff]; exact fun h => h1 h.1
theorem f46_at (a : Int) : f46 (a, ()) = .ret (decide (0 ≤ a ∧ a ≤ 100)) := by
  unfold f46 F46; try delta lenI
  simp only [i72]
theorem f34_at (x : (List (Int × (Int × Unit))) × (Int × (Int × Unit))) (hx : x.1.length ≤ 1000) : ∃ b, f34 (x, ()) = .ret b ∧ (b = true ↔ Tb x) := by
  have hf := fuel_big
  have key := allLoop (L := fun n i => L34_0 fuel n (x, ()) i) (lo := 0) (len := x.1.length)
    (c := decide ((2 ≤ (x.1.length : Int) ∧ (x.1.length : Int) ≤ 13) ∧ (1 ≤ x.2.1 ∧ x.2.1 ≤ 4) ∧ (0 ≤ x.2.2.1 ∧ x.2.2.1 ≤ 100)))
    (fun j => Sp (List.getD x.1 j.toNat ((0 : Int), ((0 : Int), ()))))
    (fun n i h1 h2 => by
      try dsimp only
      rw [L34_0_succ]; try delta lenI
      obtain ⟨b, e1, e2⟩ := f89_at (List.getD x.1 i.toNat ((0 : Int), ((0 : Int), ())))
      simp (disch := omega) only [lenE, dT, inbT, cond_true, e1, wr]
      cases b
      · right
        exact ⟨fun h => by simpa using e2.2 h, rfl⟩
      · left
        exact ⟨e2.1 rfl, rfl⟩)
    (fun n => by
      try dsimp only
      rw [L34_0_succ]; try delta lenI
      simp only [lenE, dF (Int.lt_irrefl _), i72, r30, f46_at]
      by_cases h1 : 2 ≤ (x.1.length : Int) ∧ (x.1.length : Int) ≤ 13
      · by_cases h2 : 1 ≤ x.2.1 ∧ x.2.1 ≤ 4
        · simp only [dT h1, dT h2]
          congr 1
          rw [decide_eq_decide]
          exact ⟨fun h => ⟨h1, h2, h⟩, fun h => h.2.2⟩
        · simp only [dT h1, dF h2]
          rw [dF (fun h => h2 h.2.1)]
      · simp only [dF h1]
        rw [dF (fun h => h1 h.1)]) x.1.length fuel 0 (by omega) (by omega) (by omega)
  obtain ⟨b, h1, h2⟩ := key
  refine ⟨b, h1, h2.trans ?_⟩
  unfold Tb
  rw [decide_eq_true_eq]
  constructor
  · rintro ⟨a, b, c, d⟩; exact ⟨by omega, c, d, a⟩
  · rintro ⟨a, b, c, d⟩; exact ⟨d, by omega, b, c⟩
theorem f158_loop (x : (List (Int × (Int × Unit))) × (Value × Unit)) (hx : x.1.length ≤ 1000) : ∀ (m n : Nat) (i : Int), m < n → 0 ≤ i → i + m = x.1.length →
    ∃ r, L158a_0 fuel n x i = .ret r ∧ (0 ≤ r ↔ ¬ ∀ j : Int, i ≤ j → j < x.1.length → Sp (List.getD x.1 j.toNat ((0 : Int), ((0 : Int), ())))) := by
  intro m
  induction m with
  | zero =>
    intro n i hn hi he
    obtain ⟨n, rfl⟩ := succ_of hn
    rw [L158a_0_succ]; try delta lenI
    simp (disch := omega) only [lenE, dF]
    refine ⟨_, rfl, ?_⟩
    simp only [show ¬ (0 : Int) ≤ -1 by omega, false_iff, Classical.not_not]
    intro j a b; omega
  | succ m ih =>
    intro n i hn hi he
    obtain ⟨n, rfl⟩ := succ_of hn
    rw [L158a_0_succ]; try delta lenI
    obtain ⟨b, e1, e2⟩ := f124_at (List.getD x.1 i.toNat ((0 : Int), ((0 : Int), ())))
    simp (disch := omega) only [lenE, dT, inbT, cond_true, e1, wr]
    cases b
    · obtain ⟨r, h1, h2⟩ := ih n (i + 1) (by omega) (by omega) (by omega)
      refine ⟨r, h1, h2.trans (not_congr ⟨fun q j a d => ?_, fun q j a d => q j (by omega) d⟩)⟩
      by_cases e : j = i
      · subst e
        exact Classical.byContradiction fun h => by simpa using e2.2 h
      · exact q j (by omega) d
    · refine ⟨i, rfl, ⟨fun _ q => e2.1 rfl (q i (by omega) (by omega)), fun _ => hi⟩⟩
theorem f77_at (x : (List (Int × (Int × Unit))) × (Int × (Int × Unit))) : ∃ b, f77 (x, ()) = .ret b ∧ (b = true ↔ Tb x) := by
  have hf := fuel_big
  unfold f77 F77; try delta lenI
  simp only [i86, r87, lenE]
  by_cases h1 : 2 ≤ (x.1.length : Int) ∧ (x.1.length : Int) ≤ 13
  · by_cases h2 : 1 ≤ x.2.1 ∧ x.2.1 ≤ 4
    · by_cases h3 : 0 ≤ x.2.2.1 ∧ x.2.2.1 ≤ 100
      · obtain ⟨r, e1, e2⟩ := f158_loop (x.1, ((Value.func (.func 124) #[] #[]), ())) (by dsimp only; omega) x.1.length fuel 0 (by omega) (by omega) (by dsimp only; omega)
        have e3 : f123a (x.1, ((Value.func (.func 124) #[] #[]), ())) = .ret (decide (r ≥ 0)) := by
          have e0 : f123a (x.1, ((Value.func (.func 124) #[] #[]), ())) = F123a fuel (x.1, ((Value.func (.func 124) #[] #[]), ())) := (q123a _).symm.trans (e123a fuel (x.1, ((Value.func (.func 124) #[] #[]), ())))
          have e4 : f158a (x.1, ((Value.func (.func 124) #[] #[]), ())) = F158a fuel (x.1, ((Value.func (.func 124) #[] #[]), ())) := (q158a _).symm.trans (e158a fuel (x.1, ((Value.func (.func 124) #[] #[]), ())))
          rw [e0]
          unfold F123a
          simp only [e4]
          unfold F158a
          rw [e1]
        simp only [dT h1, dT h2, dT h3, e3]
        refine ⟨_, rfl, ?_⟩
        unfold Tb
        have : (2 ≤ x.1.length ∧ x.1.length ≤ 13) := by omega
        simp only [this, h2, h3, true_and, and_self]
        rw [Bool.not_eq_true', decide_eq_false_iff_not, ge_iff_le, e2, Classical.not_not]
      · simp only [dT h1, dT h2, dF h3]
        exact ⟨_, rfl, by simp only [Bool.false_eq_true, false_iff]; exact fun h => h3 h.2.2.1⟩
    · simp only [dT h1, dF h2]
      exact ⟨_, rfl, by simp only [Bool.false_eq_true, false_iff]; exact fun h => h2 h.2.1⟩
  · simp only [dF h1]
    exact ⟨_, rfl, by simp only [Bool.false_eq_true, false_iff]; exact fun h => h1 (by have := h.1; omega)⟩
theorem tab (x : (List (Int × (Int × Unit))) × (Int × (Int × Unit))) (hx : x.1.length ≤ 16) : ∃ b, f34 (x, ()) = .ret b ∧ f77 (x, ()) = .ret b ∧ (b = true ↔ Tb x) := by
  obtain ⟨b, h1, h2⟩ := f34_at x (by omega)
  obtain ⟨c, h3, h4⟩ := f77_at x
  have : b = c := Bool.eq_iff_iff.2 (h2.trans h4.symm)
  subst this
  exact ⟨b, h1, h3, h2⟩
abbrev sp' (x : (List (Int × (Int × Unit))) × (Int × (Int × Unit))) (j : Int) : Int × (Int × Unit) := List.getD x.1 j.toNat ((0 : Int), ((0 : Int), ()))
theorem sp_small {x : (List (Int × (Int × Unit))) × (Int × (Int × Unit))} (ht : Tb x) {j : Int} (h1 : 0 ≤ j) (h2 : j < x.1.length) :
    -9999 ≤ (sp' x j).1 ∧ (sp' x j).1 ≤ (sp' x j).2.1 ∧ (sp' x j).2.1 ≤ 9999 ∧ (sp' x j).2.1 - (sp' x j).1 ≤ 4 := by
  have := ht.2.2.2 j h1 h2
  unfold Sp at this
  unfold sp'
  omega
end Go.V
