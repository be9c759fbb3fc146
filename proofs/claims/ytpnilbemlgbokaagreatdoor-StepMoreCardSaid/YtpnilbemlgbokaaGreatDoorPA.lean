/- A part of the proof of a law of the step table. -/
import Derived.Test.YtpnilbemlgbokaaGreatDoorS3
set_option linter.all false
namespace Go.V
open Go.Proofs
theorem wr {x : Int} (h1 : -9223372036854775808 ≤ x) (h2 : x ≤ 9223372036854775807) : IntKind.i64.wrap x = x := by
  unfold IntKind.wrap
  simp only [IntKind.bits, IntKind.signed]
  simp
  split <;> omega
theorem floor_eq {n p k : Int} (hp : 0 < p) (h1 : k * p ≤ n) (h2 : n < k * p + p) : n / p = k := by
  have a := (Int.le_ediv_iff_mul_le hp).2 h1
  have b : n / p < k + 1 := (Int.ediv_lt_iff_lt_mul hp).2 (by rw [Int.add_mul, Int.one_mul]; exact h2)
  omega
theorem tq (n p : Int) (hp : 0 < p) : ∃ m, n = n.tdiv p * p + m ∧ -p < m ∧ m < p ∧ (0 ≤ n → 0 ≤ m) ∧ (n < 0 → m ≤ 0) := by
  refine ⟨n.tmod p, ?_, ?_, Int.tmod_lt_of_pos n hp, fun h => Int.tmod_nonneg p h, fun h => ?_⟩
  · have := Int.tdiv_mul_add_tmod n p; omega
  · have h := Int.tmod_lt_of_pos (-n) hp
    rw [Int.neg_tmod] at h; omega
  · have := Int.tmod_nonneg (a := -n) p (by omega)
    rw [Int.neg_tmod] at this; omega
theorem tq_small {n p : Int} (hp : 0 < p) {B : Int} (h1 : -B ≤ n) (h2 : n ≤ B) : -B ≤ n.tdiv p ∧ n.tdiv p ≤ B := by
  have := Int.natAbs_tdiv_le_natAbs n p
  omega
theorem down_at (N : Nat) (n p : Int) (hp : 0 < p) (hp2 : p ≤ 1000) (h1 : -1000000 ≤ n) (h2 : n ≤ 1000000) : F127 N ((p, ()), (n, ())) = .ret (n / p) := by
  obtain ⟨m, e, a, b, c, d⟩ := tq n p hp
  obtain ⟨s, t⟩ := tq_small hp h1 h2
  have hne : (p != 0) = true := by simp; omega
  unfold F127
  simp (disch := omega) only [wr, hne, cond_true]
  by_cases hlt : n.tdiv p * p > n
  · simp only [hlt, decide_true]
    congr 1
    refine (floor_eq hp ?_ ?_).symm <;> rw [Int.sub_mul, Int.one_mul] <;> omega
  · simp only [hlt, decide_false]
    congr 1
    exact (floor_eq hp (by omega) (by omega)).symm
theorem fl (n p : Int) (hp : 0 < p) : ∃ R, n = n / p * p + R ∧ 0 ≤ R ∧ R < p := 
  ⟨n % p, (Int.ediv_mul_add_emod n p).symm, Int.emod_nonneg n (by omega), Int.emod_lt_of_pos n hp⟩
noncomputable def rnd (k R p r : Int) : Int :=
  if r = 2 then (if 0 < R then k + 1 else k)
  else if r = 3 then (if p ≤ 2 * R then k + 1 else k)
  else if r = 4 then (if p < 2 * R then k + 1 else if 2 * R = p ∧ k.tmod 2 ≠ 0 then k + 1 else k)
  else k
theorem rnd3 (k R p : Int) : rnd k R p 3 = if p ≤ 2 * R then k + 1 else k := rfl
theorem rnd4 (k R p : Int) : rnd k R p 4 = if p < 2 * R then k + 1 else if 2 * R = p ∧ k.tmod 2 ≠ 0 then k + 1 else k := rfl
theorem par (k : Int) : k.tmod 2 = 0 ↔ k % 2 = 0 := by rw [← Int.dvd_iff_tmod_eq_zero, ← Int.dvd_iff_emod_eq_zero]
theorem fl_small {n p : Int} (hp : 0 < p) {B : Int} (h1 : -B ≤ n) (h2 : n ≤ B) : -B - 1 ≤ n / p ∧ n / p ≤ B := by
  have hB : 0 ≤ B := by omega
  constructor
  · refine (Int.le_ediv_iff_mul_le hp).2 ?_
    have : (B + 1) * 1 ≤ (B + 1) * p := Int.mul_le_mul_of_nonneg_left (by omega) (by omega)
    have e : (-B - 1) * p = -((B + 1) * p) := by rw [← Int.neg_mul]; congr 1; omega
    omega
  · have : n / p < B + 1 := by
      refine (Int.ediv_lt_iff_lt_mul hp).2 ?_
      have : (B + 1) * 1 ≤ (B + 1) * p := Int.mul_le_mul_of_nonneg_left (by omega) (by omega)
      omega
    omega
theorem tail (k R p r : Int) (h1 : -9000000 ≤ k) (h2 : k ≤ 9000000) (a : 0 ≤ R) (b : R < p) (c : p ≤ 1000) :
    (match (r == (2 : Int)) with
      | true =>
        match (decide (R > (0 : Int))) with
        | true =>
          .ret (IntKind.i64.wrap (k + (1 : Int)))
        | false =>
          .ret k
      | false =>
        match (r == (3 : Int)) with
        | true =>
          match (decide ((IntKind.i64.wrap ((2 : Int) * R)) ≥ p)) with
          | true =>
            .ret (IntKind.i64.wrap (k + (1 : Int)))
          | false =>
            .ret k
        | false =>
          match (r == (4 : Int)) with
          | true =>
            match (decide ((IntKind.i64.wrap ((2 : Int) * R)) > p)) with
            | true =>
              .ret (IntKind.i64.wrap (k + (1 : Int)))
            | false =>
              match ((IntKind.i64.wrap ((2 : Int) * R)) == p) with
              | true =>
                match ((k.tmod (2 : Int)) != (0 : Int)) with
                | true =>
                  .ret (IntKind.i64.wrap (k + (1 : Int)))
                | false =>
                  .ret k
              | false =>
                .ret k
          | false =>
            .ret k : Out Int) = .ret (rnd k R p r) := by
  simp (disch := omega) only [wr]
  unfold rnd
  by_cases r2 : r = 2
  · subst r2
    by_cases h : 0 < R <;> simp [h]
  have e2 : (r == 2) = false := by simp [r2]
  rw [if_neg r2, e2]
  by_cases r3 : r = 3
  · subst r3
    by_cases h : p ≤ 2 * R <;> simp [h]
  have e3 : (r == 3) = false := by simp [r3]
  rw [if_neg r3]
  simp only [e3]
  by_cases r4 : r = 4
  · subst r4
    by_cases h : p < 2 * R
    · simp [h]
    · by_cases h' : 2 * R = p
      · have e5 : (2 * R == p) = true := by simp [h']
        by_cases h'' : k.tmod 2 = 0
        · have e6 : (k.tmod 2 != 0) = false := by simp [h'']
          simp [h, e5, e6, h'']
        · have e6 : (k.tmod 2 != 0) = true := by simp [h'']
          simp [h, e5, e6, h', h'']
      · have e5 : (2 * R == p) = false := by simp [h']
        simp [h, e5, h']
  have e4 : (r == 4) = false := by simp [r4]
  rw [if_neg r4]
  simp only [e4]
theorem f88_at (N : Nat) (n p r : Int) (hp : 0 < p) (hp2 : p ≤ 1000) (h1 : -1000000 ≤ n) (h2 : n ≤ 1000000) : F88 N (n, (p, (r, ()))) = .ret (rnd (n / p) (n - n / p * p) p r) := by
  obtain ⟨m, e, a, b, c, d⟩ := tq n p hp
  obtain ⟨s, t⟩ := tq_small hp h1 h2
  obtain ⟨R, e', a', b'⟩ := fl n p hp
  obtain ⟨s', t'⟩ := fl_small hp h1 h2
  have hne : (p != 0) = true := by simp; omega
  have key : (if n < n.tdiv p * p then n.tdiv p - 1 else n.tdiv p) = n / p := by
    split
    · refine (floor_eq hp ?_ ?_).symm <;> rw [Int.sub_mul, Int.one_mul] <;> omega
    · exact (floor_eq hp (by omega) (by omega)).symm
  have w1 : IntKind.i64.wrap (n.tdiv p) = n.tdiv p := wr (by omega) (by omega)
  have w2 : IntKind.i64.wrap (n.tdiv p * p) = n.tdiv p * p := wr (by omega) (by omega)
  have w3 : IntKind.i64.wrap (n.tdiv p - 1) = n.tdiv p - 1 := wr (by omega) (by omega)
  have w4 : IntKind.i64.wrap (n / p * p) = n / p * p := wr (by omega) (by omega)
  have w5 : IntKind.i64.wrap (n - n / p * p) = n - n / p * p := wr (by omega) (by omega)
  unfold F88
  simp only [w1, w2, w3, hne, cond_true]
  by_cases hlt : n < n.tdiv p * p
  · rw [if_pos hlt] at key
    simp only [hlt, decide_true, key, w4, w5]
    exact tail (n / p) _ p r (by omega) (by omega) (by omega) (by omega) hp2
  · rw [if_neg hlt] at key
    simp only [hlt, decide_false]
    simp only [key, w4, w5]
    exact tail (n / p) _ p r (by omega) (by omega) (by omega) (by omega) hp2
theorem in_at (N : Nat) (a b c : Int) : F83 N (a, (b, (c, ()))) = .ret (decide (b ≤ a ∧ a ≤ c)) ∧ F86 N (a, (b, (c, ()))) = .ret (decide (b ≤ a ∧ a ≤ c)) ∧ F72 N (a, (b, (c, ()))) = .ret (decide (b ≤ a ∧ a ≤ c)) := by
  unfold F83 F86 F72
  by_cases h : b ≤ a <;> simp [h]
theorem rule_at (N : Nat) (a : Int) : F84 N (a, ()) = .ret (decide (1 ≤ a ∧ a ≤ 4)) ∧ F87 N (a, ()) = .ret (decide (1 ≤ a ∧ a ≤ 4)) ∧ F30 N (a, ()) = .ret (decide (1 ≤ a ∧ a ≤ 4)) := by
  unfold F84 F87 F30
  by_cases h : 1 ≤ a <;> simp [h]
theorem near_eq {n p R : Int} (hp : 0 < p) (e : n = n / p * p + R) (a : 0 ≤ R) (b : R < p) : (2 * n + p) / (2 * p) = if p ≤ 2 * R then n / p + 1 else n / p := by
  have h1 : n / p * (2 * p) = 2 * (n / p * p) := by rw [← Int.mul_assoc, Int.mul_comm (n / p) 2, Int.mul_assoc]
  split
  · refine floor_eq (by omega) ?_ ?_ <;> rw [Int.add_mul, Int.one_mul, h1] <;> omega
  · refine floor_eq (by omega) ?_ ?_ <;> rw [h1] <;> omega
theorem up_eq {n p R : Int} (hp : 0 < p) (e : n = n / p * p + R) (a : 0 ≤ R) (b : R < p) : (-n) / p = if 0 < R then -(n / p) - 1 else -(n / p) := by
  have h1 : -(n / p) * p = -(n / p * p) := Int.neg_mul ..
  split
  · refine floor_eq (by omega) ?_ ?_ <;> rw [Int.sub_mul, Int.one_mul, h1] <;> omega
  · refine floor_eq (by omega) ?_ ?_ <;> rw [h1] <;> omega
theorem f129_at (N : Nat) (n p : Int) (hp : 0 < p) (hp2 : p ≤ 500) (h1 : -400000 ≤ n) (h2 : n ≤ 400000) : F129 N ((p, ()), (n, ())) = .ret (rnd (n / p) (n - n / p * p) p 3) := by
  obtain ⟨R, e, a, b⟩ := fl n p hp
  have w1 : IntKind.i64.wrap (2 * p) = 2 * p := wr (by omega) (by omega)
  have w2 : IntKind.i64.wrap (2 * n) = 2 * n := wr (by omega) (by omega)
  have w3 : IntKind.i64.wrap (2 * n + p) = 2 * n + p := wr (by omega) (by omega)
  have g : n - n / p * p = R := by omega
  unfold F129 f127
  simp only [w1, w2, w3]
  rw [down_at _ _ _ (by omega) (by omega) (by omega) (by omega), near_eq hp e a b, g]
  rfl
theorem f27_at (N : Nat) (n p r : Int) (hp : 0 < p) (hp2 : p ≤ 500) (h1 : -400000 ≤ n) (h2 : n ≤ 400000) (hr : 1 ≤ r) (hr2 : r ≤ 4) : F27 N (n, (p, (r, ()))) = .ret (rnd (n / p) (n - n / p * p) p r, (0, ())) := by
  obtain ⟨R, e, a, b⟩ := fl n p hp
  obtain ⟨s', t'⟩ := fl_small hp h1 h2
  have g : n - n / p * p = R := by omega
  unfold F27 f83 f84
  simp only [(in_at _ _ _ _).1, (rule_at _ _).1]
  have d1 : decide ((-1099511627776 : Int) ≤ n ∧ n ≤ 1099511627776) = true := by simp; omega
  have d2 : decide ((1 : Int) ≤ p ∧ p ≤ 1048576) = true := by simp; omega
  have d3 : decide ((1 : Int) ≤ r ∧ r ≤ 4) = true := by simp; omega
  simp only [d1, d2, d3, Bool.not_true]
  have c0 : (r == 0) = false := by simp; omega
  rw [c0, cond_false]
  have hcase : r = 1 ∨ r = 2 ∨ r = 3 ∨ r = 4 := by omega
  rcases hcase with rfl | rfl | rfl | rfl
  · show (match f127 ((p, ()), (n, ())) with | .ret r_7 => Out.ret (r_7, ((0 : Int), ())) | .pan p_8 => .pan p_8 | .fail => .fail) = _
    unfold f127
    rw [down_at _ _ _ hp (by omega) (by omega) (by omega)]
    rfl
  · show (match f128 ((p, ()), (n, ())) with | .ret r_7 => Out.ret (r_7, ((0 : Int), ())) | .pan p_8 => .pan p_8 | .fail => .fail) = _
    have w1 : IntKind.i64.wrap (0 - n) = -n := by rw [wr (by omega) (by omega)]; omega
    unfold f128 F128 f127
    simp only [w1]
    rw [down_at _ _ _ hp (by omega) (by omega) (by omega), up_eq hp e a b, g]
    unfold rnd
    by_cases h : 0 < R
    · simp only [h, if_true]
      rw [wr (by omega) (by omega)]
      congr 2; omega
    · simp only [h, if_false, if_true]
      rw [wr (by omega) (by omega)]
      congr 2; omega
  · show (match f129 ((p, ()), (n, ())) with | .ret r_7 => Out.ret (r_7, ((0 : Int), ())) | .pan p_8 => .pan p_8 | .fail => .fail) = _
    unfold f129
    rw [f129_at _ _ _ hp hp2 h1 h2]
  · show (match f130 ((p, ()), (n, ())) with | .ret r_7 => Out.ret (r_7, ((0 : Int), ())) | .pan p_8 => .pan p_8 | .fail => .fail) = _
    have w1 : IntKind.i64.wrap (2 * p) = 2 * p := wr (by omega) (by omega)
    have w2 : IntKind.i64.wrap (2 * n) = 2 * n := wr (by omega) (by omega)
    have w3 : IntKind.i64.wrap (2 * n + p) = 2 * n + p := wr (by omega) (by omega)
    have h1 : n / p * (2 * p) = 2 * (n / p * p) := by rw [← Int.mul_assoc, Int.mul_comm (n / p) 2, Int.mul_assoc]
    have m1 : 2 * p * (n / p) = 2 * (n / p * p) := by rw [Int.mul_comm, h1]
    have m2 : 2 * p * (n / p + 1) = 2 * (n / p * p) + 2 * p := by rw [Int.mul_add, Int.mul_one, m1]
    unfold f130 F130 f129
    simp only []
    rw [f129_at _ _ _ hp hp2 (by omega) (by omega), g]
    rw [rnd3, rnd4]
    simp only [w1, w2, w3]
    by_cases q1 : p ≤ 2 * R
    · simp only [q1, if_true]
      simp only [m2]
      rw [wr (x := 2 * (n / p * p) + 2 * p) (by omega) (by omega)]
      by_cases q2 : p < 2 * R
      · have d4 : (2 * n + p == 2 * (n / p * p) + 2 * p) = false := by simp; omega
        simp only [d4, q2]
        simp
      · have q3 : 2 * R = p := by omega
        have d4 : (2 * n + p == 2 * (n / p * p) + 2 * p) = true := by simp; omega
        have w6 : IntKind.i64.wrap (n / p + 1 - 1) = n / p := by rw [wr (by omega) (by omega)]; omega
        simp only [d4, q2, w6]
        by_cases q4 : (n / p).tmod 2 = 0
        · have d5 : ((n / p + 1).tmod 2 != 0) = true := by
            rw [par] at q4
            simp only [bne_iff_ne, ne_eq]
            rw [par]; omega
          simp [d5, q4]
        · have d5 : ((n / p + 1).tmod 2 != 0) = false := by
            rw [par] at q4
            have : (n / p + 1).tmod 2 = 0 := (par _).2 (by omega)
            rw [this]; rfl
          simp [d5, q3, q4]
    · simp only [q1, if_false]
      have q2 : ¬ p < 2 * R := by omega
      have q3 : ¬ 2 * R = p := by omega
      simp only [m1]
      rw [wr (x := 2 * (n / p * p)) (by omega) (by omega)]
      have d4 : (2 * n + p == 2 * (n / p * p)) = false := by simp; omega
      simp only [d4]
      simp [q1, q2, q3]
theorem fuel_big : 1000000 ≤ fuel := by unfold fuel; decide
end Go.V
namespace Go.V
open Go.Proofs
theorem inbT {i : Int} {n : Nat} (h1 : 0 ≤ i) (h2 : i < n) : inb i n = true := by
  unfold inb; simp [h1, h2]
theorem lenE {α : Type} (l : List α) : lenI l = (l.length : Int) := rfl
theorem dT {p : Prop} [Decidable p] (h : p) : decide p = true := decide_eq_true h
theorem dF {p : Prop} [Decidable p] (h : ¬ p) : decide p = false := decide_eq_false h
theorem eT {a b : Int} (h : a = b) : (a == b) = true := by simp [h]
theorem eF {a b : Int} (h : a ≠ b) : (a == b) = false := by simp [h]
theorem nT {a b : Int} (h : a ≠ b) : (a != b) = true := by simp [h]
theorem nF {a b : Int} (h : a = b) : (a != b) = false := by simp [h]
theorem fitsT {α : Type} {xs ys : List α} (h : xs.length + ys.length < 1000000) : fits xs ys = true := by unfold fits; simp [h]
theorem i72 (a b c : Int) : f72 (a, (b, (c, ()))) = .ret (decide (b ≤ a ∧ a ≤ c)) := (in_at _ _ _ _).2.2
theorem i86 (a b c : Int) : f86 (a, (b, (c, ()))) = .ret (decide (b ≤ a ∧ a ≤ c)) := (in_at _ _ _ _).2.1
theorem r30 (a : Int) : f30 (a, ()) = .ret (decide (1 ≤ a ∧ a ≤ 4)) := (rule_at _ _).2.2
theorem r87 (a : Int) : f87 (a, ()) = .ret (decide (1 ≤ a ∧ a ≤ 4)) := (rule_at _ _).2.1
theorem succ_of {m n : Nat} (h : m < n) : ∃ k, n = k + 1 := ⟨n - 1, by omega⟩
theorem allLoop {L : Nat → Int → Out Bool} {lo len : Int} {c : Bool} (P : Int → Prop)
    (step : ∀ n i, lo ≤ i → i < len → (P i ∧ L (n + 1) i = L n (i + 1)) ∨ (¬ P i ∧ L (n + 1) i = .ret false))
    (done : ∀ n, L (n + 1) len = .ret c) :
    ∀ (m n : Nat) (i : Int), m < n → lo ≤ i → i + m = len → ∃ b, L n i = .ret b ∧ (b = true ↔ (∀ j, i ≤ j → j < len → P j) ∧ c = true) := by
  intro m
  induction m with
  | zero =>
    intro n i hn hi he
    obtain ⟨n, rfl⟩ := succ_of hn
    obtain rfl : i = len := by omega
    exact ⟨c, done n, ⟨fun h => ⟨fun j a b => by omega, h⟩, fun h => h.2⟩⟩
  | succ m ih =>
    intro n i hn hi he
    obtain ⟨n, rfl⟩ := succ_of hn
    rcases step n i hi (by omega) with ⟨hp, e⟩ | ⟨hp, e⟩
    · obtain ⟨b, h1, h2⟩ := ih n (i + 1) (by omega) (by omega) (by omega)
      refine ⟨b, e.trans h1, h2.trans ⟨fun q => ⟨fun j a d => ?_, q.2⟩, fun q => ⟨fun j a d => q.1 j (by omega) d, q.2⟩⟩⟩
      by_cases e : j = i
      · subst e; exact hp
      · exact q.1 j (by omega) d
    · refine ⟨false, e, ⟨fun h => (by cases h), fun q => absurd (q.1 i (by omega) (by omega)) hp⟩⟩
def Sp (s : Int × (Int × Unit)) : Prop := (-9999 ≤ s.1 ∧ s.1 ≤ 9999) ∧ (s.1 ≤ s.2.1 ∧ s.2.1 ≤ 9999) ∧ s.2.1 - s.1 ≤ 4
def Tb (x : (List (Int × (Int × Unit))) × (Int × (Int × Unit))) : Prop :=
  (2 ≤ x.1.length ∧ x.1.length ≤ 13) ∧ (1 ≤ x.2.1 ∧ x.2.1 ≤ 4) ∧ (0 ≤ x.2.2.1 ∧ x.2.2.1 ≤ 100) ∧ ∀ j : Int, 0 ≤ j → j < x.1.length → Sp (List.getD x.1 j.toNat ((0 : Int), ((0 : Int), ())))
theorem f124_at (s : Int × (Int × Unit)) : ∃ b, f124 (s, ()) = .ret b ∧ (b = true ↔ ¬ Sp s) := by
  unfold f124 F124; try delta lenI
  simp only [i86]
  by_cases h1 : -9999 ≤ s.1 ∧ s.1 ≤ 9999
  · simp only [dT h1, Bool.not_true]
    by_cases h2 : s.1 ≤ s.2.1 ∧ s.2.1 ≤ 9999
    · simp (disch := omega) only [dT h2, Bool.not_true, wr]
      refine ⟨_, rfl, ?_⟩
      unfold Sp
      simp [h1, h2]
    · simp only [dF h2, Bool.not_false]
      refine ⟨_, rfl, ?_⟩
      unfold Sp
      simp only [true_iff]; exact fun h => h2 h.2.1
  · simp only [dF h1, Bool.not_false]
    refine ⟨_, rfl, ?_⟩
    unfold Sp
    simp only [true_iff]; exact fun h => h1 h.1
theorem f89_at (s : Int × (Int × Unit)) : ∃ b, f89 (s, ()) = .ret b ∧ (b = true ↔ Sp s) := by
  unfold f89 F89; try delta lenI
  simp only [i72]
  by_cases h1 : -9999 ≤ s.1 ∧ s.1 ≤ 9999
  · simp (disch := omega) only [dT h1, wr]
    refine ⟨_, rfl, ?_⟩
    unfold Sp
    simp only [decide_eq_true_eq, h1, true_and]
    split <;> omega
  · simp only [dF h1]
    refine ⟨_, rfl, ?_⟩
    unfold Sp
    simp only [Bool.false_eq_true, false_iff]; exact fun h => h1 h.1
theorem f46_at (a : Int) : f46 (a, ()) = .ret (decide (0 ≤ a ∧ a ≤ 100)) := by
  unfold f46 F46; try delta lenI
  simp only [i72]
theorem f34_at (x : (List (Int × (Int × Unit))) × (Int × (Int × Unit))) (hx : x.1.length ≤ 1000) : ∃ b, f34 (x, ()) = .ret b ∧ (b = true ↔ Tb x) := by
  have hf := fuel_big
  have key := allLoop (L := fun n i => L34_0 fuel n (x, ()) i) (lo := 0) (len := x.1.length)
    (c := decide ((2 ≤ (x.1.length : Int) ∧ (x.1.length : Int) ≤ 13) ∧ (1 ≤ x.2.1 ∧ x.2.1 ≤ 4) ∧ (0 ≤ x.2.2.1 ∧ x.2.2.1 ≤ 100)))
    (fun j => Sp (List.getD x.1 j.toNat ((0 : Int), ((0 : Int), ()))))
    (fun n i h1 h2 => by
      try dsimp only
      rw [L34_0_succ]; try delta lenI
      obtain ⟨b, e1, e2⟩ := f89_at (List.getD x.1 i.toNat ((0 : Int), ((0 : Int), ())))
      simp (disch := omega) only [lenE, dT, inbT, cond_true, e1, wr]
      cases b
      · right
        exact ⟨fun h => by simpa using e2.2 h, rfl⟩
      · left
        exact ⟨e2.1 rfl, rfl⟩)
    (fun n => by
      try dsimp only
      rw [L34_0_succ]; try delta lenI
      simp only [lenE, dF (Int.lt_irrefl _), i72, r30, f46_at]
      by_cases h1 : 2 ≤ (x.1.length : Int) ∧ (x.1.length : Int) ≤ 13
      · by_cases h2 : 1 ≤ x.2.1 ∧ x.2.1 ≤ 4
        · simp only [dT h1, dT h2]
          congr 1
          rw [decide_eq_decide]
          exact ⟨fun h => ⟨h1, h2, h⟩, fun h => h.2.2⟩
        · simp only [dT h1, dF h2]
          rw [dF (fun h => h2 h.2.1)]
      · simp only [dF h1]
        rw [dF (fun h => h1 h.1)]) x.1.length fuel 0 (by omega) (by omega) (by omega)
  obtain ⟨b, h1, h2⟩ := key
  refine ⟨b, h1, h2.trans ?_⟩
  unfold Tb
  rw [decide_eq_true_eq]
  constructor
  · rintro ⟨a, b, c, d⟩; exact ⟨by omega, c, d, a⟩
  · rintro ⟨a, b, c, d⟩; exact ⟨d, by omega, b, c⟩
theorem f158_loop (x : (List (Int × (Int × Unit))) × (Value × Unit)) (hx : x.1.length ≤ 1000) : ∀ (m n : Nat) (i : Int), m < n → 0 ≤ i → i + m = x.1.length →
    ∃ r, L158a_0 fuel n x i = .ret r ∧ (0 ≤ r ↔ ¬ ∀ j : Int, i ≤ j → j < x.1.length → Sp (List.getD x.1 j.toNat ((0 : Int), ((0 : Int), ())))) := by
  intro m
  induction m with
  | zero =>
    intro n i hn hi he
    obtain ⟨n, rfl⟩ := succ_of hn
    rw [L158a_0_succ]; try delta lenI
    simp (disch := omega) only [lenE, dF]
    refine ⟨_, rfl, ?_⟩
    simp only [show ¬ (0 : Int) ≤ -1 by omega, false_iff, Classical.not_not]
    intro j a b; omega
  | succ m ih =>
    intro n i hn hi he
    obtain ⟨n, rfl⟩ := succ_of hn
    rw [L158a_0_succ]; try delta lenI
    obtain ⟨b, e1, e2⟩ := f124_at (List.getD x.1 i.toNat ((0 : Int), ((0 : Int), ())))
    simp (disch := omega) only [lenE, dT, inbT, cond_true, e1, wr]
    cases b
    · obtain ⟨r, h1, h2⟩ := ih n (i + 1) (by omega) (by omega) (by omega)
      refine ⟨r, h1, h2.trans (not_congr ⟨fun q j a d => ?_, fun q j a d => q j (by omega) d⟩)⟩
      by_cases e : j = i
      · subst e
        exact Classical.byContradiction fun h => by simpa using e2.2 h
      · exact q j (by omega) d
    · refine ⟨i, rfl, ⟨fun _ q => e2.1 rfl (q i (by omega) (by omega)), fun _ => hi⟩⟩
theorem f77_at (x : (List (Int × (Int × Unit))) × (Int × (Int × Unit))) : ∃ b, f77 (x, ()) = .ret b ∧ (b = true ↔ Tb x) := by
  have hf := fuel_big
  unfold f77 F77; try delta lenI
  simp only [i86, r87, lenE]
  by_cases h1 : 2 ≤ (x.1.length : Int) ∧ (x.1.length : Int) ≤ 13
  · by_cases h2 : 1 ≤ x.2.1 ∧ x.2.1 ≤ 4
    · by_cases h3 : 0 ≤ x.2.2.1 ∧ x.2.2.1 ≤ 100
      · obtain ⟨r, e1, e2⟩ := f158_loop (x.1, ((Value.func (.func 124) #[] #[]), ())) (by dsimp only; omega) x.1.length fuel 0 (by omega) (by omega) (by dsimp only; omega)
        have e3 : f123a (x.1, ((Value.func (.func 124) #[] #[]), ())) = .ret (decide (r ≥ 0)) := by
          have e0 : f123a (x.1, ((Value.func (.func 124) #[] #[]), ())) = F123a fuel (x.1, ((Value.func (.func 124) #[] #[]), ())) := (q123a _).symm.trans (e123a fuel (x.1, ((Value.func (.func 124) #[] #[]), ())))
          have e4 : f158a (x.1, ((Value.func (.func 124) #[] #[]), ())) = F158a fuel (x.1, ((Value.func (.func 124) #[] #[]), ())) := (q158a _).symm.trans (e158a fuel (x.1, ((Value.func (.func 124) #[] #[]), ())))
          rw [e0]
          unfold F123a
          simp only [e4]
          unfold F158a
          rw [e1]
        simp only [dT h1, dT h2, dT h3, e3]
        refine ⟨_, rfl, ?_⟩
        unfold Tb
        have : (2 ≤ x.1.length ∧ x.1.length ≤ 13) := by omega
        simp only [this, h2, h3, true_and, and_self]
        rw [Bool.not_eq_true', decide_eq_false_iff_not, ge_iff_le, e2, Classical.not_not]
      · simp only [dT h1, dT h2, dF h3]
        exact ⟨_, rfl, by simp only [Bool.false_eq_true, false_iff]; exact fun h => h3 h.2.2.1⟩
    · simp only [dT h1, dF h2]
      exact ⟨_, rfl, by simp only [Bool.false_eq_true, false_iff]; exact fun h => h2 h.2.1⟩
  · simp only [dF h1]
    exact ⟨_, rfl, by simp only [Bool.false_eq_true, false_iff]; exact fun h => h1 (by have := h.1; omega)⟩
theorem tab (x : (List (Int × (Int × Unit))) × (Int × (Int × Unit))) (hx : x.1.length ≤ 16) : ∃ b, f34 (x, ()) = .ret b ∧ f77 (x, ()) = .ret b ∧ (b = true ↔ Tb x) := by
  obtain ⟨b, h1, h2⟩ := f34_at x (by omega)
  obtain ⟨c, h3, h4⟩ := f77_at x
  have : b = c := Bool.eq_iff_iff.2 (h2.trans h4.symm)
  subst this
  exact ⟨b, h1, h3, h2⟩
def Kp (k : List Int) (n : Int) : Prop :=
  2 ≤ k.length ∧ List.getD k 0 0 = 0 ∧ List.getD k ((k.length : Int) - 1).toNat 0 = n - 1 ∧ ∀ j : Int, 1 ≤ j → j < k.length → List.getD k (j - 1).toNat 0 < List.getD k j.toNat 0
theorem kp_mono {k : List Int} {n : Int} (h : Kp k n) : ∀ (d : Nat) (i : Int), 0 ≤ i → i + d < k.length → List.getD k i.toNat 0 + d ≤ List.getD k (i + d).toNat 0 := by
  intro d
  induction d with
  | zero => intro i h1 h2; simp
  | succ d ih =>
    intro i h1 h2
    have a := ih i h1 (by omega)
    have b := h.2.2.2 (i + d + 1) (by omega) (by omega)
    have e1 : i + (d : Int) + 1 - 1 = i + d := by omega
    have e2 : i + ((d + 1 : Nat) : Int) = i + d + 1 := by omega
    rw [e1] at b
    rw [e2]; omega
theorem kp_le {k : List Int} {n : Int} (h : Kp k n) {i j : Int} (h1 : 0 ≤ i) (h2 : i ≤ j) (h3 : j < k.length) : List.getD k i.toNat 0 + (j - i) ≤ List.getD k j.toNat 0 := by
  have := kp_mono h (j - i).toNat i h1 (by omega)
  have e : i + ((j - i).toNat : Int) = j := by omega
  rw [e] at this; omega
theorem kp_range {k : List Int} {n : Int} (h : Kp k n) {i : Int} (h1 : 0 ≤ i) (h2 : i < k.length) : 0 ≤ List.getD k i.toNat 0 ∧ List.getD k i.toNat 0 ≤ n - 1 ∧ i ≤ List.getD k i.toNat 0 := by
  have a := kp_le h (i := 0) (by omega) h1 h2
  have b := kp_le h (i := i) (j := k.length - 1) h1 (by omega) (by omega)
  have c := h.2.1
  have d := h.2.2.1
  rw [d] at b
  simp only [Int.toNat_zero, c] at a
  omega
theorem f38_at (x : (List (Int × (Int × Unit))) × (Int × (Int × Unit))) (k : List Int) (hx : x.1.length ≤ 1000) (hk : k.length ≤ 1000) : ∃ b, f38 (x, (k, ())) = .ret b ∧ (b = true ↔ Kp k x.1.length) := by
  have hf := fuel_big
  unfold f38 F38; try delta lenI
  try dsimp only
  by_cases h1 : (k.length : Int) < 2
  · simp only [lenE, dT h1]
    exact ⟨_, rfl, by simp only [Bool.false_eq_true, false_iff]; exact fun h => by have := h.1; omega⟩
  · simp (disch := omega) only [lenE, dF h1, inbT, cond_true, wr, Int.toNat_zero]
    by_cases h2 : List.getD k 0 0 = 0
    · simp only [nF h2]
      by_cases h3 : List.getD k ((k.length : Int) - 1).toNat 0 = (x.1.length : Int) - 1
      · simp only [nF h3]
        obtain ⟨b, e1, e2⟩ := allLoop (L := fun n i => L38_0 fuel n (x, (k, ())) i) (lo := 1) (len := k.length) (c := true)
          (fun j => List.getD k (j - 1).toNat 0 < List.getD k j.toNat 0)
          (fun n i q1 q2 => by
            try dsimp only
            rw [L38_0_succ]; try delta lenI
            simp (disch := omega) only [lenE, dT, inbT, cond_true, wr]
            by_cases q3 : List.getD k i.toNat 0 ≤ List.getD k (i - 1).toNat 0
            · right; simp only [dT q3]; exact ⟨by omega, (by trivial)⟩
            · left; simp only [dF q3]; exact ⟨by omega, (by trivial)⟩)
          (fun n => by
            try dsimp only
            rw [L38_0_succ]; try delta lenI
            simp only [lenE, dF (Int.lt_irrefl _)]) (k.length - 1) fuel 1 (by omega) (by omega) (by omega)
        refine ⟨b, e1, e2.trans ?_⟩
        unfold Kp
        simp only [h2, h3, and_true, true_and]
        exact ⟨fun h => ⟨by omega, h⟩, fun h => h.2⟩
      · simp only [nT h3]
        exact ⟨_, rfl, by simp only [Bool.false_eq_true, false_iff]; exact fun h => h3 h.2.2.1⟩
    · simp only [nT h2]
      exact ⟨_, rfl, by simp only [Bool.false_eq_true, false_iff]; exact fun h => h2 h.2.1⟩
theorem f78_at (x : (List (Int × (Int × Unit))) × (Int × (Int × Unit))) (k : List Int) (hx : x.1.length ≤ 1000) (hk : k.length ≤ 1000) : ∃ b, f78 (x, (k, ())) = .ret b ∧ (b = true ↔ Kp k x.1.length) := by
  have hf := fuel_big
  unfold f78 F78; try delta lenI
  have done : ∃ c, (∀ n, L78_0 fuel (n + 1) (x, (k, ())) k.length = .ret c) ∧ (c = true ↔ (2 ≤ k.length ∧ List.getD k 0 0 = 0 ∧ List.getD k ((k.length : Int) - 1).toNat 0 = (x.1.length : Int) - 1)) := by
    by_cases h1 : (k.length : Int) ≥ 2
    · by_cases h2 : List.getD k 0 0 = 0
      · refine ⟨(List.getD k ((k.length : Int) - 1).toNat 0 == (x.1.length : Int) - 1), fun n => ?_, ?_⟩
        · rw [L78_0_succ]; try delta lenI
          simp (disch := omega) only [lenE, dF (Int.lt_irrefl _), dT h1, inbT, cond_true, Int.toNat_zero, eT h2, wr]
        · simp only [beq_iff_eq, h2, true_and]
          exact ⟨fun h => ⟨by omega, h⟩, fun h => h.2⟩
      · refine ⟨false, fun n => ?_, ?_⟩
        · rw [L78_0_succ]; try delta lenI
          simp (disch := omega) only [lenE, dF (Int.lt_irrefl _), dT h1, inbT, cond_true, Int.toNat_zero, eF h2, wr]
        · simp only [Bool.false_eq_true, false_iff]; exact fun h => h2 h.2.1
    · refine ⟨false, fun n => ?_, ?_⟩
      · rw [L78_0_succ]; try delta lenI
        simp only [lenE, dF (Int.lt_irrefl _), dF h1]
      · simp only [Bool.false_eq_true, false_iff]; omega
  obtain ⟨c, d1, d2⟩ := done
  obtain ⟨b, e1, e2⟩ := allLoop (L := fun n i => L78_0 fuel n (x, (k, ())) i) (lo := 0) (len := k.length) (c := c)
    (fun j => (0 ≤ List.getD k j.toNat 0 ∧ List.getD k j.toNat 0 ≤ (x.1.length : Int) - 1) ∧ (0 < j → List.getD k (j - 1).toNat 0 < List.getD k j.toNat 0))
    (fun n i q1 q2 => by
      try dsimp only
      rw [L78_0_succ]; try delta lenI
      simp (disch := omega) only [lenE, dT, inbT, cond_true, wr, i86]
      by_cases q3 : 0 ≤ List.getD k i.toNat 0 ∧ List.getD k i.toNat 0 ≤ (x.1.length : Int) - 1
      · simp only [dT q3, Bool.not_true]
        by_cases q4 : i > 0
        · simp (disch := omega) only [dT q4, inbT, cond_true]
          by_cases q5 : List.getD k i.toNat 0 ≤ List.getD k (i - 1).toNat 0
          · right; simp only [dT q5]; exact ⟨fun h => by have := h.2 q4; omega, (by trivial)⟩
          · left; simp only [dF q5]; exact ⟨⟨q3, fun _ => by omega⟩, (by trivial)⟩
        · left; simp only [dF q4]; exact ⟨⟨q3, fun h => absurd h q4⟩, (by trivial)⟩
      · right; simp only [dF q3, Bool.not_false]; exact ⟨fun h => q3 h.1, (by trivial)⟩)
    d1 k.length fuel 0 (by omega) (by omega) (by omega)
  refine ⟨b, e1, e2.trans ?_⟩
  rw [d2]
  constructor
  · rintro ⟨a, b1, b2, b3⟩
    exact ⟨b1, b2, b3, fun j j1 j2 => (a j (by omega) j2).2 (by omega)⟩
  · intro h
    exact ⟨fun j j1 j2 => ⟨⟨(kp_range h j1 j2).1, (kp_range h j1 j2).2.1⟩, fun j3 => h.2.2.2 j (by omega) j2⟩, h.1, h.2.1, h.2.2.1⟩
theorem kep (x : (List (Int × (Int × Unit))) × (Int × (Int × Unit))) (k : List Int) (hx : x.1.length ≤ 16) (hk : k.length ≤ 1000) : ∃ b, f38 (x, (k, ())) = .ret b ∧ f78 (x, (k, ())) = .ret b ∧ (b = true ↔ Kp k x.1.length) := by
  obtain ⟨b, h1, h2⟩ := f38_at x k (by omega) (by omega)
  obtain ⟨c, h3, h4⟩ := f78_at x k (by omega) (by omega)
  have : b = c := Bool.eq_iff_iff.2 (h2.trans h4.symm)
  subst this
  exact ⟨b, h1, h3, h2⟩
def Ar (k : List Int) (row b a : Int) : Prop := (b ∈ k ∧ b ≤ row) ∧ (a ∈ k ∧ row ≤ a) ∧ ∀ y ∈ k, (y ≤ row → y ≤ b) ∧ (row ≤ y → a ≤ y)
theorem ar_one {k : List Int} {row b a b' a' : Int} (h : Ar k row b a) (h' : Ar k row b' a') : b = b' ∧ a = a' := by
  have q1 := (h.2.2 b' h'.1.1).1 h'.1.2
  have q2 := (h'.2.2 b h.1.1).1 h.1.2
  have q3 := (h.2.2 a' h'.2.1.1).2 h'.2.1.2
  have q4 := (h'.2.2 a h.2.1.1).2 h.2.1.2
  omega
theorem ar_in {k : List Int} {row b a : Int} (h : Ar k row b a) (hm : row ∈ k) : b = row ∧ a = row :=
  ar_one h ⟨⟨hm, Int.le_refl _⟩, ⟨hm, Int.le_refl _⟩, fun y _ => ⟨id, id⟩⟩
theorem ar_out {k : List Int} {row b a : Int} (h : Ar k row b a) (hm : ¬ row ∈ k) : b < row ∧ row < a := by
  have h1 : b ≠ row := fun e => hm (e ▸ h.1.1)
  have h2 : a ≠ row := fun e => hm (e ▸ h.2.1.1)
  have := h.1.2; have := h.2.1.2
  omega
theorem getD_lt {l : List Int} {i : Nat} (h : i < l.length) : List.getD l i 0 = l[i] := by
  rw [List.getD_eq_getElem?_getD, List.getElem?_eq_getElem h]; rfl
theorem getD_mem {k : List Int} {j : Int} (h1 : 0 ≤ j) (h2 : j < k.length) : List.getD k j.toNat 0 ∈ k := by
  have h3 : j.toNat < k.length := by omega
  rw [getD_lt h3]
  exact List.getElem_mem h3
theorem mem_getD {k : List Int} {y : Int} (h : y ∈ k) : ∃ j : Int, 0 ≤ j ∧ j < k.length ∧ List.getD k j.toNat 0 = y := by
  obtain ⟨i, hi, e⟩ := List.mem_iff_getElem.1 h
  refine ⟨i, by omega, by omega, ?_⟩
  rw [Int.toNat_natCast, getD_lt hi, e]
theorem f134_loop (k : List Int) (row : Int) (hk : k.length ≤ 1000) : ∀ (m n : Nat) (b a i : Int), m < n → 0 ≤ i → i + m = k.length →
    (b ∈ k ∧ b ≤ row) → (a ∈ k ∧ row ≤ a) → (∀ j : Int, 0 ≤ j → j < i → (List.getD k j.toNat 0 ≤ row → List.getD k j.toNat 0 ≤ b) ∧ (row ≤ List.getD k j.toNat 0 → a ≤ List.getD k j.toNat 0)) →
    ∃ b' a', L134_0 fuel n (k, (row, ())) b a i = .ret (b', (a', ())) ∧ Ar k row b' a' := by
  intro m
  induction m with
  | zero =>
    intro n b a i hn hi he hb ha hall
    obtain ⟨n, rfl⟩ := succ_of hn
    rw [L134_0_succ]; try delta lenI
    simp (disch := omega) only [lenE, dF]
    refine ⟨b, a, rfl, hb, ha, fun y hy => ?_⟩
    obtain ⟨j, j1, j2, rfl⟩ := mem_getD hy
    exact hall j j1 (by omega)
  | succ m ih =>
    intro n b a i hn hi he hb ha hall
    obtain ⟨n, rfl⟩ := succ_of hn
    rw [L134_0_succ]; try delta lenI
    have hm : List.getD k i.toNat 0 ∈ k := getD_mem hi (by omega)
    simp (disch := omega) only [lenE, dT, inbT, cond_true, wr]
    generalize hg : List.getD k i.toNat 0 = g at *
    have next : ∀ b' a', (b' ∈ k ∧ b' ≤ row) → (a' ∈ k ∧ row ≤ a') → b ≤ b' → a' ≤ a → (g ≤ row → g ≤ b') → (row ≤ g → a' ≤ g) →
        ∃ b'' a'', L134_0 fuel n (k, (row, ())) b' a' (i + 1) = .ret (b'', (a'', ())) ∧ Ar k row b'' a'' := by
      intro b' a' hb' ha' l1 l2 l3 l4
      refine ih n b' a' (i + 1) (by omega) (by omega) (by omega) hb' ha' fun j j1 j2 => ?_
      by_cases e : j = i
      · subst e; rw [hg]; exact ⟨l3, l4⟩
      · have := hall j j1 (by omega)
        exact ⟨fun h => by have := this.1 h; omega, fun h => by have := this.2 h; omega⟩
    by_cases h1 : g ≤ row
    · simp only [dT h1]
      have hb2 : (if g > b then g else b) ∈ k ∧ (if g > b then g else b) ≤ row := by split; exact ⟨hm, h1⟩; exact hb
      by_cases h2 : g ≥ row
      · simp only [dT h2]
        have ha2 : (if g < a then g else a) ∈ k ∧ row ≤ (if g < a then g else a) := by split; exact ⟨hm, h2⟩; exact ha
        exact next _ _ hb2 ha2 (by split <;> omega) (by split <;> omega) (by intro; split <;> omega) (by intro; split <;> omega)
      · simp only [dF h2]
        exact next _ _ hb2 ha (by split <;> omega) (by omega) (by intro; split <;> omega) (by intro; omega)
    · simp only [dF h1]
      by_cases h2 : g ≥ row
      · simp only [dT h2]
        have ha2 : (if g < a then g else a) ∈ k ∧ row ≤ (if g < a then g else a) := by split; exact ⟨hm, h2⟩; exact ha
        exact next _ _ hb ha2 (by omega) (by split <;> omega) (by intro; omega) (by intro; split <;> omega)
      · omega
theorem f134_at (k : List Int) (n row : Int) (hk : Kp k n) (hl : k.length ≤ 1000) (h1 : 0 ≤ row) (h2 : row ≤ n - 1) : ∃ b a, f134 (k, (row, ())) = .ret (b, (a, ())) ∧ Ar k row b a := by
  have hf := fuel_big
  have hlen := hk.1
  unfold f134 F134; try delta lenI
  try dsimp only
  simp (disch := omega) only [lenE, inbT, cond_true, wr, Int.toNat_zero]
  have m0 := getD_mem (k := k) (j := 0) (by omega) (by omega)
  have m1 := getD_mem (k := k) (j := (k.length : Int) - 1) (by omega) (by omega)
  rw [Int.toNat_zero] at m0
  rw [hk.2.1] at m0 ⊢
  rw [hk.2.2.1] at m1 ⊢
  exact f134_loop k row hl k.length fuel 0 (n - 1) 0 (by omega) (by omega) (by omega) ⟨m0, h1⟩ ⟨m1, h2⟩ (fun j j1 j2 => by omega)
theorem half {s : Int} (h1 : 0 ≤ s) (h2 : s ≤ 1000000) : IntKind.i64.wrap ((IntKind.u64.wrap s).fdiv (2 ^ (min (1 : Int).toNat IntKind.u64.bits))) = s / 2 := by
  have e : IntKind.u64.wrap s = s := by
    unfold IntKind.wrap
    simp only [IntKind.bits, IntKind.signed]
    simp
    omega
  rw [e]
  have e2 : (2 : Int) ^ (min (1 : Int).toNat IntKind.u64.bits) = 2 := rfl
  rw [e2, Int.fdiv_eq_ediv_of_nonneg _ (by omega)]
  exact wr (by omega) (by omega)
theorem f143_at (a b : Int) : f143 (a, (b, ())) = .ret (decide (a < b)) := by
  unfold f143 F143; try delta lenI
  simp only [nF]
theorem f108_loop (k : List Int) (n row : Int) (hk : Kp k n) (hl : k.length ≤ 1000) : ∀ (m f : Nat) (i j : Int), m < f → 0 ≤ i → i ≤ j → j ≤ k.length → j - i ≤ m →
    (∀ q : Int, 0 ≤ q → q < i → List.getD k q.toNat 0 < row) → (∀ q : Int, j ≤ q → q < k.length → row ≤ List.getD k q.toNat 0) →
    ∃ r b, L108_0 fuel f (k, (row, ())) i j = .ret (r, (b, ())) ∧ 0 ≤ r ∧ r ≤ k.length ∧ (∀ q : Int, 0 ≤ q → q < r → List.getD k q.toNat 0 < row) ∧ (∀ q : Int, r ≤ q → q < k.length → row ≤ List.getD k q.toNat 0) ∧ (b = true ↔ r < k.length ∧ List.getD k r.toNat 0 = row) := by
  intro m
  induction m with
  | zero =>
    intro f i j hn hi hij hj hm lo hi'
    obtain ⟨f, rfl⟩ := succ_of hn
    obtain rfl : i = j := by omega
    rw [L108_0_succ]; try delta lenI
    simp only [dF (Int.lt_irrefl _), lenE]
    by_cases h1 : i < k.length
    · simp (disch := omega) only [dT h1, inbT, cond_true]
      by_cases h2 : List.getD k i.toNat 0 = row
      · simp only [eT h2]
        exact ⟨i, true, rfl, hi, by omega, lo, hi', by simp only [true_iff]; exact ⟨h1, h2⟩⟩
      · simp only [eF h2, nF]
        exact ⟨i, false, rfl, hi, by omega, lo, hi', by simp only [Bool.false_eq_true, false_iff]; exact fun h => h2 h.2⟩
    · simp only [dF h1]
      exact ⟨i, false, rfl, hi, by omega, lo, hi', by simp only [Bool.false_eq_true, false_iff]; exact fun h => h1 h.1⟩
  | succ m ih =>
    intro f i j hn hi hij hj hm lo hi'
    by_cases e : i = j
    · exact ih f i j (by omega) hi hij hj (by omega) lo hi'
    · obtain ⟨f, rfl⟩ := succ_of hn
      rw [L108_0_succ]; try delta lenI
      have w : IntKind.i64.wrap (i + j) = i + j := wr (by omega) (by omega)
      simp only [w, half (show 0 ≤ i + j by omega) (by omega)]
      simp (disch := omega) only [dT, lenE, inbT, cond_true, f143_at, wr]
      by_cases h : List.getD k ((i + j) / 2).toNat 0 < row
      · simp only [dT h]
        refine ih f ((i + j) / 2 + 1) j (by omega) (by omega) (by omega) hj (by omega) (fun q q1 q2 => ?_) hi'
        have := kp_le hk (i := q) (j := (i + j) / 2) q1 (by omega) (by omega)
        omega
      · simp only [dF h]
        refine ih f i ((i + j) / 2) (by omega) (by omega) (by omega) (by omega) (by omega) lo (fun q q1 q2 => ?_)
        have := kp_le hk (i := (i + j) / 2) (j := q) (by omega) q1 q2
        omega
theorem f99_at (x : (List (Int × (Int × Unit))) × (Int × (Int × Unit))) (k : List Int) (n row : Int) (hk : Kp k n) (hl : k.length ≤ 1000) (h1 : 0 ≤ row) (h2 : row ≤ n - 1) : ∃ b a, f99 ((x, (k, ((), ()))), (row, ())) = .ret (b, (a, ())) ∧ Ar k row b a := by
  have hf := fuel_big
  have hlen := hk.1
  obtain ⟨r, b, e, r1, r2, r3, r4, r5⟩ := f108_loop k n row hk hl k.length fuel 0 k.length (by omega) (by omega) (by omega) (by omega) (by omega) (fun q q1 q2 => by omega) (fun q q1 q2 => by omega)
  unfold f99 F99 f108 F108; try delta lenI
  try dsimp only
  rw [e]
  try dsimp only
  have hr : r < k.length := by
    have : ¬ (k.length : Int) - 1 < r := fun h => by
      have := r3 ((k.length : Int) - 1) (by omega) h
      rw [hk.2.2.1] at this; omega
    omega
  cases b
  · have hne : List.getD k r.toNat 0 ≠ row := fun h => by simpa using r5.2 ⟨hr, h⟩
    have hr0 : 0 < r := by
      have : r ≠ 0 := fun h => by
        subst h
        have := r4 0 (by omega) (by omega)
        rw [Int.toNat_zero, hk.2.1] at this hne
        omega
      omega
    simp (disch := omega) only [wr, inbT, cond_true]
    refine ⟨_, _, rfl, ⟨getD_mem (by omega) (by omega), ?_⟩, ⟨getD_mem (by omega) (by omega), r4 r (by omega) hr⟩, fun y hy => ?_⟩
    · have := r3 (r - 1) (by omega) (by omega); omega
    · obtain ⟨q, q1, q2, rfl⟩ := mem_getD hy
      by_cases hq : q < r
      · have a1 := r3 q q1 hq
        have a2 := kp_le hk (i := q) (j := r - 1) q1 (by omega) (by omega)
        exact ⟨fun _ => by omega, fun h => by omega⟩
      · have a1 := r4 q (by omega) q2
        have a2 := kp_le hk (i := r) (j := q) (by omega) (by omega) (by omega)
        have a3 := r4 r (by omega) hr
        exact ⟨fun h => by omega, fun _ => by omega⟩
  · have he := (r5.1 rfl).2
    have hm : row ∈ k := he ▸ getD_mem r1 hr
    exact ⟨row, row, rfl, ⟨hm, Int.le_refl _⟩, ⟨hm, Int.le_refl _⟩, fun y _ => ⟨id, id⟩⟩
noncomputable def bef (k : List Int) (row : Int) : Int := match f134 (k, (row, ())) with | .ret r => r.1 | _ => 0
noncomputable def aft (k : List Int) (row : Int) : Int := match f134 (k, (row, ())) with | .ret r => r.2.1 | _ => 0
theorem aro (x : (List (Int × (Int × Unit))) × (Int × (Int × Unit))) {k : List Int} {n row : Int} (hk : Kp k n) (hl : k.length ≤ 1000) (h1 : 0 ≤ row) (h2 : row ≤ n - 1) :
    f134 (k, (row, ())) = .ret (bef k row, (aft k row, ())) ∧ f99 ((x, (k, ((), ()))), (row, ())) = .ret (bef k row, (aft k row, ())) ∧ Ar k row (bef k row) (aft k row) := by
  obtain ⟨b, a, e1, e2⟩ := f134_at k n row hk hl h1 h2
  obtain ⟨b', a', e3, e4⟩ := f99_at x k n row hk hl h1 h2
  obtain ⟨rfl, rfl⟩ := ar_one e2 e4
  unfold bef aft
  rw [e1]
  exact ⟨rfl, e3, e2⟩
theorem ar_range {k : List Int} {n row b a : Int} (hk : Kp k n) (h : Ar k row b a) : 0 ≤ b ∧ a ≤ n - 1 ∧ b ≤ row ∧ row ≤ a ∧ (b = a → b = row) ∧ (b ≠ a → b < row ∧ row < a) := by
  obtain ⟨j, j1, j2, e1⟩ := mem_getD h.1.1
  obtain ⟨i, i1, i2, e2⟩ := mem_getD h.2.1.1
  have a1 := kp_range hk j1 j2
  have a2 := kp_range hk i1 i2
  refine ⟨by omega, by omega, h.1.2, h.2.1.2, fun e => ?_, fun e => ?_⟩
  · have := h.1.2; have := h.2.1.2; omega
  · by_cases hm : row ∈ k
    · have := ar_in h hm; omega
    · exact ar_out h hm
abbrev sp' (x : (List (Int × (Int × Unit))) × (Int × (Int × Unit))) (j : Int) : Int × (Int × Unit) := List.getD x.1 j.toNat ((0 : Int), ((0 : Int), ()))
theorem sp_small {x : (List (Int × (Int × Unit))) × (Int × (Int × Unit))} (ht : Tb x) {j : Int} (h1 : 0 ≤ j) (h2 : j < x.1.length) :
    -9999 ≤ (sp' x j).1 ∧ (sp' x j).1 ≤ (sp' x j).2.1 ∧ (sp' x j).2.1 ≤ 9999 ∧ (sp' x j).2.1 - (sp' x j).1 ≤ 4 := by
  have := ht.2.2.2 j h1 h2
  unfold Sp at this
  unfold sp'
  omega
end Go.V
namespace Go.V
open Go.Proofs
theorem rnd_bd {k R p r : Int} (hp : 0 < p) (hR : 0 ≤ R) : k ≤ rnd k R p r ∧ rnd k R p r ≤ k + 1 ∧ (R = 0 → rnd k R p r = k) := by
  unfold rnd
  split
  · split <;> omega
  split
  · split <;> omega
  split
  · split
    · omega
    · split <;> omega
  · omega
noncomputable def rd (n p r : Int) : Int := rnd (n / p) (n - n / p * p) p r
theorem rd_le {n p r lo hi : Int} (hp : 0 < p) (h1 : lo * p ≤ n) (h2 : n ≤ hi * p) : lo ≤ rd n p r ∧ rd n p r ≤ hi := by
  obtain ⟨R, e, a, b⟩ := fl n p hp
  have g : n - n / p * p = R := by omega
  unfold rd
  rw [g]
  obtain ⟨c1, c2, c3⟩ := rnd_bd (k := n / p) (r := r) hp a
  have d1 : lo ≤ n / p := (Int.le_ediv_iff_mul_le hp).2 h1
  have d2 : n / p < hi + 1 := (Int.ediv_lt_iff_lt_mul hp).2 (by rw [Int.add_mul, Int.one_mul]; omega)
  refine ⟨by omega, ?_⟩
  by_cases h : n / p = hi
  · have : R = 0 := by rw [h] at e; omega
    have := c3 this
    omega
  · omega
theorem rd_mono {n n' p r : Int} (hp : 0 < p) (h : n ≤ n') : rd n p r ≤ rd n' p r := by
  obtain ⟨R, e, a, b⟩ := fl n p hp
  obtain ⟨R', e', a', b'⟩ := fl n' p hp
  have g : n - n / p * p = R := by omega
  have g' : n' - n' / p * p = R' := by omega
  unfold rd
  rw [g, g']
  have hq : n / p ≤ n' / p := Int.ediv_le_ediv hp h
  obtain ⟨c1, c2, c3⟩ := rnd_bd (k := n / p) (r := r) hp a
  obtain ⟨d1, d2, d3⟩ := rnd_bd (k := n' / p) (r := r) hp a'
  by_cases hh : n / p = n' / p
  · rw [← hh] at e' ⊢
    have hR : R ≤ R' := by omega
    unfold rnd
    repeat' split
    all_goals omega
  · omega
theorem rd_self {n p r : Int} (hp : 0 < p) (q : Int) (h : n = q * p) : rd n p r = q := by
  have := rd_le (n := n) (p := p) (r := r) (lo := q) (hi := q) hp (by omega) (by omega)
  omega
noncomputable def fig (r b a row one oth : Int) : Int := rd (one * (a - row) + oth * (row - b)) (a - b) r
theorem lin {b a row one oth lo hi : Int} (hb : b ≤ row) (ha : row ≤ a) (h1 : lo ≤ one) (h2 : lo ≤ oth) (h3 : one ≤ hi) (h4 : oth ≤ hi) :
    lo * (a - b) ≤ one * (a - row) + oth * (row - b) ∧ one * (a - row) + oth * (row - b) ≤ hi * (a - b) := by
  have e : ∀ z : Int, z * (a - b) = z * (a - row) + z * (row - b) := fun z => by rw [← Int.mul_add]; congr 1; omega
  have p1 := Int.mul_le_mul_of_nonneg_right h1 (show 0 ≤ a - row by omega)
  have p2 := Int.mul_le_mul_of_nonneg_right h2 (show 0 ≤ row - b by omega)
  have p3 := Int.mul_le_mul_of_nonneg_right h3 (show 0 ≤ a - row by omega)
  have p4 := Int.mul_le_mul_of_nonneg_right h4 (show 0 ≤ row - b by omega)
  rw [e lo, e hi]
  omega
theorem fig_bd {r b a row one oth lo hi : Int} (hb : b ≤ row) (ha : row ≤ a) (hlt : b < a) (h1 : lo ≤ one) (h2 : lo ≤ oth) (h3 : one ≤ hi) (h4 : oth ≤ hi) :
    lo ≤ fig r b a row one oth ∧ fig r b a row one oth ≤ hi := by
  have := lin hb ha h1 h2 h3 h4
  exact rd_le (by omega) this.1 this.2
theorem fig_mono {r b a row one oth one' oth' : Int} (hb : b ≤ row) (ha : row ≤ a) (hlt : b < a) (h1 : one ≤ one') (h2 : oth ≤ oth') : fig r b a row one oth ≤ fig r b a row one' oth' := by
  have p1 := Int.mul_le_mul_of_nonneg_right h1 (show 0 ≤ a - row by omega)
  have p2 := Int.mul_le_mul_of_nonneg_right h2 (show 0 ≤ row - b by omega)
  exact rd_mono (by omega) (by omega)
theorem fig_left {r b a one oth : Int} (hlt : b < a) : fig r b a b one oth = one := by
  refine rd_self (by omega) one ?_
  rw [Int.sub_self, Int.mul_zero, Int.add_zero]
theorem fig_right {r b a one oth : Int} (hlt : b < a) : fig r b a a one oth = oth := by
  refine rd_self (by omega) oth ?_
  rw [Int.sub_self, Int.mul_zero, Int.zero_add]
theorem prods {b a row one oth : Int} (h0 : 0 ≤ b) (hb : b ≤ row) (ha : row ≤ a) (h12 : a ≤ 15) (o1 : -10500 ≤ one) (o2 : one ≤ 10500) (t1 : -10500 ≤ oth) (t2 : oth ≤ 10500) :
    (-157500 ≤ one * (a - row) ∧ one * (a - row) ≤ 157500) ∧ (-157500 ≤ oth * (row - b) ∧ oth * (row - b) ≤ 157500) ∧ (-157500 ≤ one * (a - row) + oth * (row - b) ∧ one * (a - row) + oth * (row - b) ≤ 157500) := by
  have p1 := Int.mul_le_mul_of_nonneg_right o1 (show 0 ≤ a - row by omega)
  have p2 := Int.mul_le_mul_of_nonneg_right o2 (show 0 ≤ a - row by omega)
  have p3 := Int.mul_le_mul_of_nonneg_right t1 (show 0 ≤ row - b by omega)
  have p4 := Int.mul_le_mul_of_nonneg_right t2 (show 0 ≤ row - b by omega)
  omega
theorem f147_at {r b a row one oth : Int} (h0 : 0 ≤ b) (hb : b ≤ row) (ha : row ≤ a) (h12 : a ≤ 15) (o1 : -10500 ≤ one) (o2 : one ≤ 10500) (t1 : -10500 ≤ oth) (t2 : oth ≤ 10500) :
    f147 (r, (b, (a, (row, (one, (oth, ())))))) = .ret (if b = a then one else fig r b a row one oth) := by
  unfold f147 F147; try delta lenI
  try dsimp only
  by_cases h : b = a
  · simp only [eT h, if_pos h]
  · obtain ⟨p1, p2, p3⟩ := prods h0 hb ha h12 o1 o2 t1 t2
    simp (disch := omega) only [eF h, wr, if_neg h]
    unfold f88
    rw [f88_at _ _ _ _ (by omega) (by omega) (by omega) (by omega)]
    rfl
theorem sum2 (N j : Nat) (u v : Int) (h1 : -1000000 ≤ u) (h2 : u ≤ 1000000) (h3 : -1000000 ≤ v) (h4 : v ≤ 1000000) : L159_0 N (j + 1 + 1 + 1) ([u, v], ()) 0 0 = .ret (u + v) := by
  rw [L159_0_succ]; try delta lenI
  have e0 : List.getD [u, v] (0 : Int).toNat 0 = u := rfl
  have e1 : List.getD [u, v] (1 : Int).toNat 0 = v := rfl
  have el : (([u, v] : List Int).length : Int) = 2 := rfl
  have i0 : inb 0 ([u, v] : List Int).length = true := rfl
  have i1 : inb 1 ([u, v] : List Int).length = true := rfl
  have w0 : IntKind.i64.wrap (0 + u) = u := by rw [wr (by omega) (by omega)]; omega
  have w1 : IntKind.i64.wrap (0 + 1) = 1 := rfl
  have w2 : IntKind.i64.wrap (1 + 1) = 2 := rfl
  have w3 : IntKind.i64.wrap (u + v) = u + v := wr (by omega) (by omega)
  simp only [lenE, el, dT (show (0 : Int) < 2 by decide), i0, e0, cond_true, w0, w1]
  rw [L159_0_succ]; try delta lenI
  simp only [lenE, el, dT (show (1 : Int) < 2 by decide), i1, e1, cond_true, w2, w3]
  rw [L159_0_succ]; try delta lenI
  simp only [lenE, el, dF (show ¬ (2 : Int) < 2 by decide)]
theorem f125_at (t : (List (Int × (Int × Unit))) × (Int × (Int × Unit))) (k : List Int) {b a row one oth : Int} (hr : 1 ≤ t.2.1 ∧ t.2.1 ≤ 4) (h0 : 0 ≤ b) (hb : b ≤ row) (ha : row ≤ a) (hlt : b < a) (h12 : a ≤ 15) (o1 : -10500 ≤ one) (o2 : one ≤ 10500) (t1 : -10500 ≤ oth) (t2 : oth ≤ 10500) :
    f125 ((t, (k, ((), ()))), ((b, (a, ())), (one, (oth, (row, ()))))) = .ret (fig t.2.1 b a row one oth) := by
  obtain ⟨p1, p2, p3⟩ := prods h0 hb ha h12 o1 o2 t1 t2
  have hf := fuel_big
  obtain ⟨j, hj⟩ : ∃ j, fuel = j + 1 + 1 + 1 := ⟨fuel - 3, by omega⟩
  have key := sum2 fuel j (one * (a - row)) (oth * (row - b)) (by omega) (by omega) (by omega) (by omega)
  rw [← hj] at key
  unfold f125 F125; try delta lenI
  simp (disch := omega) only [wr]
  have e : f159 ([one * (a - row), oth * (row - b)], ()) = .ret (one * (a - row) + oth * (row - b)) := key
  rw [e]
  unfold f27
  simp only []
  rw [f27_at _ _ _ _ (by omega) (by omega) (by omega) (by omega) hr.1 hr.2]
  rfl
def Sm (u : List Int) (n : Int) : Prop := (u.length : Int) = n ∧ ∀ j : Int, 0 ≤ j → j < n → -9999 ≤ List.getD u j.toNat 0 ∧ List.getD u j.toNat 0 ≤ 9999
noncomputable def Fi (r : Int) (k : List Int) (row : Int) (u : List Int) : Int :=
  if bef k row = aft k row then List.getD u (bef k row).toNat 0 else fig r (bef k row) (aft k row) row (List.getD u (bef k row).toNat 0) (List.getD u (aft k row).toNat 0)
theorem fi_small {r : Int} {k u : List Int} {n row : Int} (hk : Kp k n) (hl : k.length ≤ 1000) (hu : Sm u n) (h1 : 0 ≤ row) (h2 : row ≤ n - 1) : -9999 ≤ Fi r k row u ∧ Fi r k row u ≤ 9999 := by
  obtain ⟨e1, e2, e3⟩ := aro ([], (0, (0, ()))) hk hl h1 h2
  obtain ⟨c1, c2, c3, c4, c5, c6⟩ := ar_range hk e3
  have s1 := hu.2 (bef k row) c1 (by omega)
  have s2 := hu.2 (aft k row) (by omega) (by omega)
  unfold Fi
  split
  · exact s1
  · exact fig_bd c3 c4 (by omega) s1.1 s2.1 s1.2 s2.2
theorem f113_at (x : (List (Int × (Int × Unit))) × (Int × (Int × Unit))) {k u : List Int} {n row : Int} (hk : Kp k n) (hl : k.length ≤ 1000) (hn : n ≤ 13) (hu : Sm u n) (h1 : 0 ≤ row) (h2 : row ≤ n - 1) :
    f113 (x, (k, (row, (u, ())))) = .ret (Fi x.2.1 k row u) := by
  obtain ⟨e1, e2, e3⟩ := aro x hk hl h1 h2
  obtain ⟨c1, c2, c3, c4, c5, c6⟩ := ar_range hk e3
  have s0 := hu.1
  have s1 := hu.2 (bef k row) c1 (by omega)
  have s2 := hu.2 (aft k row) (by omega) (by omega)
  unfold f113 F113; try delta lenI
  simp only [e1]
  simp (disch := omega) only [inbT, cond_true]
  rw [f147_at c1 c3 c4 (by omega) (by omega) (by omega) (by omega) (by omega)]
  rfl
theorem getD_set0 (l : List Int) (i j : Nat) (v : Int) (hi : i < l.length) : List.getD (l.set i v) j 0 = if i = j then v else List.getD l j 0 := by
  rw [List.getD_eq_getElem?_getD, List.getD_eq_getElem?_getD, List.getElem?_set]
  split
  · next h => subst h; simp [hi]
  · rfl
theorem getD_snoc (l : List Int) (j : Nat) (v : Int) (hj : j ≤ l.length) : List.getD (l ++ [v]) j 0 = if j = l.length then v else List.getD l j 0 := by
  rw [List.getD_eq_getElem?_getD, List.getD_eq_getElem?_getD, List.getElem?_append]
  split
  · next h => rw [if_neg (by omega)]
  · next h =>
    have : j = l.length := by omega
    subst this; simp
def Fig (l : List Int) (n : Int) (F : Int → Int) : Prop := (l.length : Int) = n ∧ ∀ j : Int, 0 ≤ j → j < n → List.getD l j.toNat 0 = F j
theorem figLoop {L : Nat → List Int → Int → Out (List Int)} {n : Int} {F : Int → Int} (hn : n ≤ 1000)
    (step : ∀ f out i, 0 ≤ i → i < n → (out.length : Int) = i → L (f + 1) out i = L f (out ++ [F i]) (i + 1))
    (done : ∀ f out, L (f + 1) out n = .ret out) :
    ∀ (m f : Nat) (out : List Int) (i : Int), m < f → 0 ≤ i → i + m = n → Fig out i F → ∃ l, L f out i = .ret l ∧ Fig l n F := by
  intro m
  induction m with
  | zero =>
    intro f out i hf hi he ho
    obtain ⟨f, rfl⟩ := succ_of hf
    obtain rfl : i = n := by omega
    exact ⟨out, done _ _, ho⟩
  | succ m ih =>
    intro f out i hf hi he ho
    obtain ⟨f, rfl⟩ := succ_of hf
    have ho1 := ho.1
    rw [step f out i hi (by omega) ho1]
    refine ih f _ (i + 1) (by omega) (by omega) (by omega) ⟨by simp; omega, fun j j1 j2 => ?_⟩
    rw [getD_snoc _ _ _ (by omega)]
    split
    · next h => congr 1; omega
    · next h => exact ho.2 j j1 (by omega)
end Go.V
namespace Go.V
open Go.Proofs
theorem f101_at (x : (List (Int × (Int × Unit))) × (Int × (Int × Unit))) (hx : x.1.length ≤ 1000) : ∃ l, f101 (x, ()) = .ret l ∧ Fig l x.1.length (fun j => (sp' x j).1) := by
  have hf := fuel_big
  exact figLoop (L := fun f out i => L101_0 fuel f (x, ()) out i) (n := x.1.length) (by omega)
    (fun f out i h1 h2 h3 => by
      try dsimp only
      rw [L101_0_succ]; try delta lenI
      simp (disch := first | omega | (simp; omega)) only [lenE, dT, inbT, fitsT, cond_true, wr])
    (fun f out => by
      try dsimp only
      rw [L101_0_succ]; try delta lenI
      simp only [lenE, dF (Int.lt_irrefl _)]) x.1.length fuel [] 0 (by omega) (by omega) (by omega) ⟨rfl, fun j a b => by omega⟩
theorem f135_at (x : (List (Int × (Int × Unit))) × (Int × (Int × Unit))) (hx : x.1.length ≤ 1000) : ∃ l, f135 (x, ()) = .ret l ∧ Fig l x.1.length (fun j => (sp' x j).2.1) := by
  have hf := fuel_big
  exact figLoop (L := fun f out i => L135_0 fuel f (x, ()) out i) (n := x.1.length) (by omega)
    (fun f out i h1 h2 h3 => by
      try dsimp only
      rw [L135_0_succ]; try delta lenI
      simp (disch := first | omega | (simp; omega)) only [lenE, dT, inbT, fitsT, cond_true, wr])
    (fun f out => by
      try dsimp only
      rw [L135_0_succ]; try delta lenI
      simp only [lenE, dF (Int.lt_irrefl _)]) x.1.length fuel [] 0 (by omega) (by omega) (by omega) ⟨rfl, fun j a b => by omega⟩
theorem lows_sm {x : (List (Int × (Int × Unit))) × (Int × (Int × Unit))} (ht : Tb x) {l : List Int} (h : Fig l x.1.length (fun j => (sp' x j).1)) : Sm l x.1.length :=
  ⟨h.1, fun j h1 h2 => by have := sp_small ht h1 h2; rw [h.2 j h1 h2]; dsimp only; omega⟩
theorem highs_sm {x : (List (Int × (Int × Unit))) × (Int × (Int × Unit))} (ht : Tb x) {l : List Int} (h : Fig l x.1.length (fun j => (sp' x j).2.1)) : Sm l x.1.length :=
  ⟨h.1, fun j h1 h2 => by have := sp_small ht h1 h2; rw [h.2 j h1 h2]; dsimp only; omega⟩
theorem f138_at (x : (List (Int × (Int × Unit))) × (Int × (Int × Unit))) (k : List Int) {j : Int} (h1 : 0 ≤ j) (h2 : j < x.1.length) :
    f138 ((x, (k, ((), ()))), (j, (0, ()))) = .ret (sp' x j).1 ∧ f138 ((x, (k, ((), ()))), (j, (1, ()))) = .ret (sp' x j).2.1 := by
  unfold f138 F138; try delta lenI
  simp only [inbT h1 h2, cond_true, eT (rfl : (0 : Int) = 0), eF (show (1 : Int) ≠ 0 by decide), eT (rfl : (1 : Int) = 1), cond_false, and_self]
noncomputable def Of (x : (List (Int × (Int × Unit))) × (Int × (Int × Unit))) (b a row : Int) : Int :=
  if (sp' x row).2.1 - fig x.2.1 b a row (sp' x b).1 (sp' x a).1 > fig x.2.1 b a row (sp' x b).2.1 (sp' x a).2.1 - (sp' x row).1
  then (sp' x row).2.1 - fig x.2.1 b a row (sp' x b).1 (sp' x a).1
  else fig x.2.1 b a row (sp' x b).2.1 (sp' x a).2.1 - (sp' x row).1
noncomputable def Fa (x : (List (Int × (Int × Unit))) × (Int × (Int × Unit))) (k : List Int) (row : Int) : Int :=
  if bef k row = aft k row then 0 else Of x (bef k row) (aft k row) row
theorem f100_at (x : (List (Int × (Int × Unit))) × (Int × (Int × Unit))) (k : List Int) (ht : Tb x) {b a row : Int} (h0 : 0 ≤ b) (h1 : b ≤ row) (h2 : row ≤ a) (h3 : b < a) (h4 : a < x.1.length) :
    f100 ((x, (k, ((), ()))), ((b, (a, ())), (row, ()))) = .ret (Of x b a row) := by
  have t1 := ht.1
  have sb := sp_small ht h0 (show b < x.1.length by omega)
  have sa := sp_small ht (show 0 ≤ a by omega) h4
  have sr := sp_small ht (show 0 ≤ row by omega) (show row < x.1.length by omega)
  have g1 := fig_bd (r := x.2.1) (lo := -9999) (hi := 9999) h1 h2 h3 sb.1 sa.1 (by omega) (by omega)
  have g2 := fig_bd (r := x.2.1) (lo := -9999) (hi := 9999) (one := (sp' x b).2.1) (oth := (sp' x a).2.1) h1 h2 h3 (by omega) (by omega) (by omega) (by omega)
  unfold f100 F100; try delta lenI
  simp only [(f138_at x k h0 (show b < x.1.length by omega)).1, (f138_at x k h0 (show b < x.1.length by omega)).2, (f138_at x k (show 0 ≤ a by omega) h4).1, (f138_at x k (show 0 ≤ a by omega) h4).2,
    (f138_at x k (show 0 ≤ row by omega) (show row < x.1.length by omega)).1, (f138_at x k (show 0 ≤ row by omega) (show row < x.1.length by omega)).2]
  rw [f125_at x k ht.2.1 h0 h1 h2 h3 (by omega) (by omega) (by omega) (by omega) (by omega)]
  rw [f125_at x k ht.2.1 h0 h1 h2 h3 (by omega) (by omega) (by omega) (by omega) (by omega)]
  simp (disch := omega) only [wr]
  rfl
theorem f94_at (x : (List (Int × (Int × Unit))) × (Int × (Int × Unit))) {k : List Int} (ht : Tb x) (hk : Kp k x.1.length) (hl : k.length ≤ 1000) {row : Int} (h1 : 0 ≤ row) (h2 : row < x.1.length) :
    f94 (x, (k, (row, ()))) = .ret (Fa x k row) := by
  have t1 := ht.1
  obtain ⟨e1, e2, e3⟩ := aro x hk hl h1 (show row ≤ (x.1.length : Int) - 1 by omega)
  obtain ⟨c1, c2, c3, c4, c5, c6⟩ := ar_range hk e3
  unfold f94 F94; try delta lenI
  simp only [e1]
  by_cases h : bef k row = aft k row
  · simp only [eT h]
    unfold Fa
    rw [if_pos h]
  · simp only [eF h]
    obtain ⟨lH, q1, q2⟩ := f135_at x (by omega)
    obtain ⟨lL, q3, q4⟩ := f101_at x (by omega)
    simp only [q1, q3]
    rw [f113_at x hk hl (by omega) (highs_sm ht q2) h1 (by omega)]
    rw [f113_at x hk hl (by omega) (lows_sm ht q4) h1 (by omega)]
    have fl1 := fi_small (r := x.2.1) hk hl (highs_sm ht q2) h1 (show row ≤ (x.1.length : Int) - 1 by omega)
    have fl2 := fi_small (r := x.2.1) hk hl (lows_sm ht q4) h1 (show row ≤ (x.1.length : Int) - 1 by omega)
    have sr := sp_small ht h1 h2
    unfold sp' at sr
    simp (disch := omega) only [inbT, cond_true, wr]
    have g1 : Fi x.2.1 k row lH = fig x.2.1 (bef k row) (aft k row) row (sp' x (bef k row)).2.1 (sp' x (aft k row)).2.1 := by
      unfold Fi
      rw [if_neg h, q2.2 _ c1 (by omega), q2.2 _ (by omega) (by omega)]
    have g2 : Fi x.2.1 k row lL = fig x.2.1 (bef k row) (aft k row) row (sp' x (bef k row)).1 (sp' x (aft k row)).1 := by
      unfold Fi
      rw [if_neg h, q4.2 _ c1 (by omega), q4.2 _ (by omega) (by omega)]
    rw [g1, g2]
    unfold Fa
    rw [if_neg h]
    rfl
def dl (P : Int → Bool) (i : Int) : Nat → List Int
  | 0 => []
  | m + 1 => if P i then i :: dl P (i + 1) m else dl P (i + 1) m
theorem dl_len (P : Int → Bool) : ∀ (m : Nat) (i : Int), (dl P i m).length ≤ m := by
  intro m
  induction m with
  | zero => intro i; exact Nat.le_refl _
  | succ m ih =>
    intro i
    unfold dl
    have := ih (i + 1)
    split
    · simp; omega
    · omega
theorem dl_mem (P : Int → Bool) (j : Int) : ∀ (m : Nat) (i : Int), j ∈ dl P i m ↔ i ≤ j ∧ j < i + m ∧ P j = true := by
  intro m
  induction m with
  | zero => intro i; unfold dl; simp; omega
  | succ m ih =>
    intro i
    have := ih (i + 1)
    unfold dl
    split
    · next h =>
      rw [List.mem_cons, this]
      constructor
      · rintro (rfl | q)
        · exact ⟨by omega, by omega, h⟩
        · exact ⟨by omega, by omega, q.2.2⟩
      · rintro ⟨q1, q2, q3⟩
        by_cases e : j = i
        · exact .inl e
        · exact .inr ⟨by omega, by omega, q3⟩
    · next h =>
      rw [this]
      constructor
      · rintro q; exact ⟨by omega, by omega, q.2.2⟩
      · rintro ⟨q1, q2, q3⟩
        have e : j ≠ i := fun e => h (e ▸ q3)
        exact ⟨by omega, by omega, q3⟩
theorem dl_congr {P Q : Int → Bool} : ∀ (m : Nat) (i : Int), (∀ j, i ≤ j → j < i + m → P j = Q j) → dl P i m = dl Q i m := by
  intro m
  induction m with
  | zero => intro i _; rfl
  | succ m ih =>
    intro i h
    unfold dl
    rw [h i (by omega) (by omega), ih (i + 1) (fun j a b => h j (by omega) (by omega))]
theorem dlLoop {L : Nat → List Int → Int → Out (List Int)} {n : Int} (hn : n ≤ 1000) (P : Int → Bool)
    (step : ∀ f out i, 0 ≤ i → i < n → (out.length : Int) ≤ i → L (f + 1) out i = L f (if P i then out ++ [i] else out) (i + 1))
    (done : ∀ f out, L (f + 1) out n = .ret out) :
    ∀ (m f : Nat) (out : List Int) (i : Int), m < f → 0 ≤ i → i + m = n → (out.length : Int) ≤ i → L f out i = .ret (out ++ dl P i m) := by
  intro m
  induction m with
  | zero =>
    intro f out i hf hi he ho
    obtain ⟨f, rfl⟩ := succ_of hf
    obtain rfl : i = n := by omega
    rw [done]
    simp [dl]
  | succ m ih =>
    intro f out i hf hi he ho
    obtain ⟨f, rfl⟩ := succ_of hf
    rw [step f out i hi (by omega) ho]
    unfold dl
    cases P i
    · exact ih f _ (i + 1) (by omega) (by omega) (by omega) (by simp; omega)
    · simp only [if_true]
      rw [ih f _ (i + 1) (by omega) (by omega) (by omega) (by simp; omega)]
      simp
noncomputable def dub (x : (List (Int × (Int × Unit))) × (Int × (Int × Unit))) (k : List Int) : List Int := dl (fun j => decide (Fa x k j > x.2.2.1)) 0 x.1.length
theorem dub_mem {x : (List (Int × (Int × Unit))) × (Int × (Int × Unit))} {k : List Int} {j : Int} : j ∈ dub x k ↔ 0 ≤ j ∧ j < x.1.length ∧ x.2.2.1 < Fa x k j := by
  unfold dub
  rw [dl_mem]
  simp only [decide_eq_true_eq]
  constructor
  · rintro ⟨a, b, c⟩; exact ⟨a, by omega, c⟩
  · rintro ⟨a, b, c⟩; exact ⟨a, by omega, c⟩
theorem f40_at (x : (List (Int × (Int × Unit))) × (Int × (Int × Unit))) {k : List Int} (ht : Tb x) (hk : Kp k x.1.length) (hl : k.length ≤ 1000) : f40 (x, (k, ())) = .ret (dub x k) := by
  have hf := fuel_big
  have t1 := ht.1
  have key := dlLoop (L := fun f out i => L40_0 fuel f (x, (k, ())) out i) (n := x.1.length) (by omega) (fun j => decide (Fa x k j > x.2.2.1))
    (fun f out i h1 h2 h3 => by
      try dsimp only
      rw [L40_0_succ]; try delta lenI
      simp only [f94_at x ht hk hl h1 h2]
      simp (disch := omega) only [lenE, dT h2, wr]
      by_cases h : Fa x k i > x.2.2.1
      · simp (disch := first | omega | (simp; omega)) only [dT h, fitsT, cond_true, if_true]
      · simp only [dF h, Bool.false_eq_true, if_false])
    (fun f out => by
      try dsimp only
      rw [L40_0_succ]; try delta lenI
      simp only [lenE, dF (Int.lt_irrefl _)]) x.1.length fuel [] 0 (by omega) (by omega) (by omega) (by simp)
  exact key
theorem f92_at (x : (List (Int × (Int × Unit))) × (Int × (Int × Unit))) {k : List Int} (ht : Tb x) (hk : Kp k x.1.length) (hl : k.length ≤ 1000) : f92 ((x, (k, ((), ()))), ()) = .ret (dub x k) := by
  have hf := fuel_big
  have t1 := ht.1
  have key := dlLoop (L := fun f out i => L92_0 fuel f ((x, (k, ((), ()))), ()) x.1 x.2.1 x.2.2.1 k () out i) (n := x.1.length) (by omega) (fun j => decide (Fa x k j > x.2.2.1))
    (fun f out i h1 h2 h3 => by
      try dsimp only
      rw [L92_0_succ]; try delta lenI
      obtain ⟨e1, e2, e3⟩ := aro x hk hl h1 (show i ≤ (x.1.length : Int) - 1 by omega)
      obtain ⟨c1, c2, c3, c4, c5, c6⟩ := ar_range hk e3
      have e2' : f99 (((x.1, (x.2.1, (x.2.2.1, ()))), (k, ((), ()))), (i, ())) = .ret (bef k i, (aft k i, ())) := e2
      simp only [e2']
      simp (disch := omega) only [lenE, dT h2, wr]
      by_cases h : bef k i < aft k i
      · have e4 : f100 (((x.1, (x.2.1, (x.2.2.1, ()))), (k, ((), ()))), ((bef k i, (aft k i, ())), (i, ()))) = .ret (Of x (bef k i) (aft k i) i) := f100_at x k ht c1 c3 c4 h (by omega)
        have e5 : Fa x k i = Of x (bef k i) (aft k i) i := by unfold Fa; rw [if_neg (by omega)]
        rw [← e5] at e4
        simp only [dT h, e4]
        by_cases h' : Fa x k i > x.2.2.1
        · simp (disch := first | omega | (simp; omega)) only [dT h', fitsT, cond_true, if_true]
        · simp only [dF h', Bool.false_eq_true, if_false]
      · have e5 : Fa x k i = 0 := by unfold Fa; rw [if_pos (by omega)]
        have h' : ¬ Fa x k i > x.2.2.1 := by have := ht.2.2.1; omega
        simp only [dF h, dF h', Bool.false_eq_true, if_false])
    (fun f out => by
      try dsimp only
      rw [L92_0_succ]; try delta lenI
      simp only [lenE, dF (Int.lt_irrefl _)]) x.1.length fuel [] 0 (by omega) (by omega) (by omega) (by simp)
  exact key
theorem f90_at (x : (List (Int × (Int × Unit))) × (Int × (Int × Unit))) {k : List Int} (ht : Tb x) (hk : Kp k x.1.length) (hl : k.length ≤ 1000) : ∃ b, f90 ((x, (k, ((), ()))), ()) = .ret b ∧ (b = true ↔ dub x k = []) := by
  unfold f90 F90 f115 f131 F131; try delta lenI
  simp only [f92_at x ht hk hl]
  by_cases h : dub x k = []
  · rw [h]
    exact ⟨true, rfl, by simp⟩
  · obtain ⟨a, l, e⟩ := List.exists_cons_of_ne_nil h
    rw [e]
    have h1 : ((a :: l).length : Int) > 0 := by rw [List.length_cons]; omega
    have h2 : inb (0 : Int) (a :: l).length = true := inbT (by omega) (by rw [List.length_cons]; omega)
    simp only [dT h1, h2, cond_true]
    exact ⟨false, rfl, by simp⟩
end Go.V
namespace Go.V
open Go.Proofs
def Gd (x : (List (Int × (Int × Unit))) × (Int × (Int × Unit))) (b a one n r : Int) : Prop :=
  (sp' x r).1 - x.2.2.1 ≤ fig x.2.1 b a r one n ∧ fig x.2.1 b a r one n ≤ (sp' x r).2.1 + x.2.2.1
noncomputable def goF (x : (List (Int × (Int × Unit))) × (Int × (Int × Unit))) (b a one n r : Int) : Bool := @decide (∀ j : Int, r ≤ j → j < a → Gd x b a one n j) (Classical.propDecidable _)
theorem goF_iff {x : (List (Int × (Int × Unit))) × (Int × (Int × Unit))} {b a one n r : Int} : goF x b a one n r = true ↔ ∀ j : Int, r ≤ j → j < a → Gd x b a one n j := by
  unfold goF; exact @decide_eq_true_iff _ (Classical.propDecidable _)
theorem goF_end {x : (List (Int × (Int × Unit))) × (Int × (Int × Unit))} {b a one n r : Int} (h : a ≤ r) : goF x b a one n r = true := goF_iff.2 fun j h1 h2 => by omega
theorem goF_step {x : (List (Int × (Int × Unit))) × (Int × (Int × Unit))} {b a one n r : Int} (h : r < a) {c : Bool} (hc : c = true ↔ Gd x b a one n r) : goF x b a one n r = (c && goF x b a one n (r + 1)) := by
  rw [Bool.eq_iff_iff, Bool.and_eq_true, goF_iff, goF_iff, hc]
  constructor
  · intro q; exact ⟨q r (by omega) h, fun j h1 h2 => q j (by omega) h2⟩
  · rintro ⟨q1, q2⟩ j h1 h2
    by_cases e : j = r
    · subst e; exact q1
    · exact q2 j (by omega) h2
theorem f133_at (x : (List (Int × (Int × Unit))) × (Int × (Int × Unit))) (ht : Tb x) {b a one n : Int} (h0 : 0 ≤ b) (h1 : b < a) (h2 : a < x.1.length) (o1 : -9999 ≤ one) (o2 : one ≤ 9999) (n1 : -9999 ≤ n) (n2 : n ≤ 9999) :
    f133 (x, (b, (a, (one, (n, ()))))) = .ret (goF x b a one n (b + 1)) := by
  have hf := fuel_big
  have t1 := ht.1
  obtain ⟨c, e1, e2⟩ := allLoop (L := fun f i => L133_0 fuel f (x, (b, (a, (one, (n, ()))))) i) (lo := b + 1) (len := a) (c := true) (fun j => Gd x b a one n j)
    (fun f i q1 q2 => by
      try dsimp only
      rw [L133_0_succ]; try delta lenI
      have si := sp_small ht (show 0 ≤ i by omega) (show i < x.1.length by omega)
      have to := ht.2.2.1
      unfold sp' at si
      simp only []
      rw [f147_at h0 (by omega) (by omega) (by omega) (by omega) (by omega) (by omega) (by omega), if_neg (by omega)]
      simp (disch := omega) only [dT, inbT, cond_true, wr, i72]
      by_cases q3 : (List.getD x.1 i.toNat ((0 : Int), ((0 : Int), ()))).1 - x.2.2.1 ≤ fig x.2.1 b a i one n ∧ fig x.2.1 b a i one n ≤ (List.getD x.1 i.toNat ((0 : Int), ((0 : Int), ()))).2.1 + x.2.2.1
      · left; simp only [dT q3]; exact ⟨q3, (by trivial)⟩
      · right; simp only [dF q3]; exact ⟨q3, (by trivial)⟩)
    (fun f => by
      try dsimp only
      rw [L133_0_succ]; try delta lenI
      simp only [dF (Int.lt_irrefl _)]) (a - b - 1).toNat fuel (b + 1) (by omega) (by omega) (by omega)
  have e3 : c = goF x b a one n (b + 1) := by
    rw [Bool.eq_iff_iff, e2, goF_iff]
    exact ⟨fun h => h.1, fun h => ⟨h, rfl⟩⟩
  unfold f133 F133; try delta lenI
  simp (disch := omega) only [wr]
  rw [← e3]
  exact e1
def Sl (fs : List Int) : Prop := ∀ y ∈ fs, -9999 ≤ y ∧ y ≤ 9999
noncomputable def canB (x : (List (Int × (Int × Unit))) × (Int × (Int × Unit))) (b a : Int) (fs : List Int) (n : Int) : Bool := fs.any fun one => goF x b a one n (b + 1)
theorem drop_any {fs : List Int} {i : Int} {P : Int → Bool} (h1 : 0 ≤ i) (h2 : i < fs.length) : (fs.drop i.toNat).any P = (P (List.getD fs i.toNat 0) || (fs.drop (i + 1).toNat).any P) := by
  have h3 : i.toNat < fs.length := by omega
  rw [List.drop_eq_getElem_cons h3, List.any_cons, getD_lt h3]
  have e : (i + 1).toNat = i.toNat + 1 := by omega
  rw [e]
theorem drop_end {fs : List Int} {i : Int} {P : Int → Bool} (h2 : i = fs.length) : (fs.drop i.toNat).any P = false := by
  subst h2; simp
section
variable (x : (List (Int × (Int × Unit))) × (Int × (Int × Unit))) (ht : Tb x) {b a : Int} (h0 : 0 ≤ b) (h1 : b < a) (h2 : a < x.1.length) (fs : List Int) (hs : Sl fs) (hl : fs.length ≤ 1000)
include ht h0 h1 h2 hs hl in
theorem l93_1 (n0 : Nat) (n : Int) (n1 : -9999 ≤ n) (n2 : n ≤ 9999) (out : List Int) (ho : out.length ≤ 1000) : ∀ (m f : Nat) (met : Bool) (i : Int), m < f → 0 ≤ i → i + m = fs.length →
    L93_1 fuel n0 f (x, (b, (a, (fs, ())))) n out met i = L93_0 fuel n0 (x, (b, (a, (fs, ())))) (if met || (fs.drop i.toNat).any (fun one => goF x b a one n (b + 1)) then out ++ [n] else out) (n + 1) := by
  intro m
  induction m with
  | zero =>
    intro f met i hf hi he
    obtain ⟨f, rfl⟩ := succ_of hf
    rw [L93_1_succ, drop_end (by omega)]; try delta lenI
    simp (disch := omega) only [lenE, dF, wr]
    cases met
    · rfl
    · simp (disch := first | omega | (simp; omega)) only [fitsT, cond_true]
      rfl
  | succ m ih =>
    intro f met i hf hi he
    obtain ⟨f, rfl⟩ := succ_of hf
    rw [L93_1_succ, drop_any hi (by omega)]; try delta lenI
    simp (disch := omega) only [lenE, dT, wr]
    cases met
    · have hm := hs _ (getD_mem hi (show i < fs.length by omega))
      simp (disch := omega) only [inbT, cond_true]
      rw [f133_at x ht h0 h1 h2 hm.1 hm.2 n1 n2]
      simp only [Bool.false_or]
      exact ih f _ (i + 1) (by omega) (by omega) (by omega)
    · simp only [Bool.true_or, if_true]
      rw [ih f true (i + 1) (by omega) (by omega) (by omega)]
      simp only [Bool.true_or, if_true]
include ht h0 h1 h2 hs hl in
theorem l132_2 (k : List Int) (n0 n1' : Nat) (n : Int) (n1 : -9999 ≤ n) (n2 : n ≤ 9999) (t : Int) (t1 : 0 ≤ t) (t2 : t < fs.length) (out : List Int) (ho : out.length ≤ 1000) : ∀ (m f : Nat) (ok : Bool) (r : Int), m < f → b < r → r + m = a →
    L132_2 fuel n0 n1' f ((x, (k, ((), ()))), ((b, (a, ())), (fs, ()))) n t out ok r =
      if ok && goF x b a (List.getD fs t.toNat 0) n r then L132_0 fuel n0 ((x, (k, ((), ()))), ((b, (a, ())), (fs, ()))) (out ++ [n]) (n + 1)
      else L132_1 fuel n0 n1' ((x, (k, ((), ()))), ((b, (a, ())), (fs, ()))) n out (t + 1) := by
  have tl := ht.1
  have to := ht.2.2.1
  intro m
  induction m with
  | zero =>
    intro f ok r hf hr he
    obtain ⟨f, rfl⟩ := succ_of hf
    rw [L132_2_succ, goF_end (by omega)]; try delta lenI
    simp (disch := omega) only [dF, wr]
    cases ok
    · rfl
    · simp (disch := first | omega | (simp; omega)) only [fitsT, cond_true]
      rfl
  | succ m ih =>
    intro f ok r hf hr he
    obtain ⟨f, rfl⟩ := succ_of hf
    rw [L132_2_succ]; try delta lenI
    have hm := hs _ (getD_mem t1 t2)
    have sr := sp_small ht (show 0 ≤ r by omega) (show r < x.1.length by omega)
    unfold sp' at sr
    simp only []
    rw [f125_at x k ht.2.1 h0 (by omega) (by omega) h1 (by omega) (by omega) (by omega) (by omega) (by omega)]
    simp (disch := omega) only [dT, wr]
    cases ok
    · simp only [Bool.false_and, Bool.false_eq_true, if_false]
      rw [ih f false (r + 1) (by omega) (by omega) (by omega)]
      simp only [Bool.false_and, Bool.false_eq_true, if_false]
    · simp (disch := omega) only [inbT, cond_true, i86]
      rw [goF_step (show r < a by omega) (c := decide ((List.getD x.1 r.toNat ((0 : Int), ((0 : Int), ()))).1 - x.2.2.1 ≤ fig x.2.1 b a r (List.getD fs t.toNat 0) n ∧ fig x.2.1 b a r (List.getD fs t.toNat 0) n ≤ (List.getD x.1 r.toNat ((0 : Int), ((0 : Int), ()))).2.1 + x.2.2.1)) (by rw [decide_eq_true_eq]; rfl)]
      rw [ih f _ (r + 1) (by omega) (by omega) (by omega)]
      simp only [Bool.true_and]
include ht h0 h1 h2 hs hl in
theorem l132_1 (k : List Int) (n0 : Nat) (n : Int) (n1 : -9999 ≤ n) (n2 : n ≤ 9999) (out : List Int) (ho : out.length ≤ 1000) : ∀ (m f : Nat) (i : Int), m < f → 0 ≤ i → i + m = fs.length →
    L132_1 fuel n0 f ((x, (k, ((), ()))), ((b, (a, ())), (fs, ()))) n out i = L132_0 fuel n0 ((x, (k, ((), ()))), ((b, (a, ())), (fs, ()))) (if (fs.drop i.toNat).any (fun one => goF x b a one n (b + 1)) then out ++ [n] else out) (n + 1) := by
  have hfb := fuel_big
  have tl := ht.1
  intro m
  induction m with
  | zero =>
    intro f i hf hi he
    obtain ⟨f, rfl⟩ := succ_of hf
    rw [L132_1_succ, drop_end (by omega)]; try delta lenI
    simp (disch := omega) only [lenE, dF, wr]
    rfl
  | succ m ih =>
    intro f i hf hi he
    obtain ⟨f, rfl⟩ := succ_of hf
    rw [L132_1_succ, drop_any hi (by omega)]; try delta lenI
    simp (disch := omega) only [lenE, dT, wr, inbT, cond_true]
    rw [l132_2 x ht h0 h1 h2 fs hs hl k n0 f n n1 n2 i hi (by omega) out ho (a - b - 1).toNat fuel true (b + 1) (by omega) (by omega) (by omega)]
    simp only [Bool.true_and]
    cases goF x b a (List.getD fs i.toNat 0) n (b + 1)
    · simp only [Bool.false_or, Bool.false_eq_true, if_false]
      exact ih f (i + 1) (by omega) (by omega) (by omega)
    · simp only [Bool.true_or, if_true]
noncomputable def canL (x : (List (Int × (Int × Unit))) × (Int × (Int × Unit))) (b a : Int) (fs : List Int) : List Int := dl (canB x b a fs) (sp' x a).1 ((sp' x a).2.1 - (sp' x a).1 + 1).toNat
include ht h0 h1 h2 hs hl in
theorem cans (k : List Int) : f93 (x, (b, (a, (fs, ())))) = .ret (canL x b a fs) ∧ f132 ((x, (k, ((), ()))), ((b, (a, ())), (fs, ()))) = .ret (canL x b a fs) := by
  have hfb := fuel_big
  have sa := sp_small ht (show 0 ≤ a by omega) h2
  have key : ∀ (m f : Nat) (out : List Int) (n : Int), m < f → (sp' x a).1 ≤ n → n + m = (sp' x a).2.1 + 1 → out.length + m ≤ 1000 →
      L93_0 fuel f (x, (b, (a, (fs, ())))) out n = .ret (out ++ dl (canB x b a fs) n m) ∧ L132_0 fuel f ((x, (k, ((), ()))), ((b, (a, ())), (fs, ()))) out n = .ret (out ++ dl (canB x b a fs) n m) := by
    intro m
    induction m with
    | zero =>
      intro f out n hf hn he ho
      obtain ⟨f, rfl⟩ := succ_of hf
      unfold sp' at he
      rw [L93_0_succ, L132_0_succ]; try delta lenI
      simp (disch := omega) only [inbT, cond_true, dF]
      simp [dl]
    | succ m ih =>
      intro f out n hf hn he ho
      obtain ⟨f, rfl⟩ := succ_of hf
      rw [L93_0_succ, L132_0_succ]; try delta lenI
      have d1 : decide (n ≤ (List.getD x.1 a.toNat ((0 : Int), ((0 : Int), ()))).2.1) = true := dT (by unfold sp' at he; omega)
      simp (disch := omega) only [inbT, cond_true, d1]
      rw [l93_1 x ht h0 h1 h2 fs hs hl f n (by omega) (by omega) out (by omega) fs.length fuel false 0 (by omega) (by omega) (by omega),
        l132_1 x ht h0 h1 h2 fs hs hl k f n (by omega) (by omega) out (by omega) fs.length fuel 0 (by omega) (by omega) (by omega)]
      have e : (fs.drop (0 : Int).toNat).any (fun one => goF x b a one n (b + 1)) = canB x b a fs n := rfl
      simp only [Bool.false_or, e]
      unfold dl
      cases canB x b a fs n
      · simp only [Bool.false_eq_true, if_false]
        exact ih f out (n + 1) (by omega) (by omega) (by omega) (by omega)
      · simp only [if_true]
        have := ih f (out ++ [n]) (n + 1) (by omega) (by omega) (by omega) (by simp; omega)
        simpa using this
  obtain ⟨k1, k2⟩ := key ((sp' x a).2.1 - (sp' x a).1 + 1).toNat fuel [] (sp' x a).1 (by omega) (by omega) (by omega) (by rw [List.length_nil]; omega)
  unfold f93 F93 f132 F132; try delta lenI
  simp (disch := omega) only [inbT, cond_true]
  exact ⟨k1, k2⟩
end
theorem canL_sl {x : (List (Int × (Int × Unit))) × (Int × (Int × Unit))} (ht : Tb x) {b a : Int} (h0 : 0 ≤ a) (h2 : a < x.1.length) (fs : List Int) : Sl (canL x b a fs) ∧ (canL x b a fs).length ≤ 5 := by
  have sa := sp_small ht h0 h2
  refine ⟨fun y hy => ?_, ?_⟩
  · have := (dl_mem _ _ _ _).1 hy
    omega
  · have : (canL x b a fs).length ≤ _ := dl_len _ _ _
    omega
noncomputable def wl (x : (List (Int × (Int × Unit))) × (Int × (Int × Unit))) (k : List Int) : Nat → Int → List Int → List Int
  | 0, _, l => l
  | m + 1, i, l => wl x k m (i + 1) (canL x (List.getD k i.toNat 0) (List.getD k (i + 1).toNat 0) l)
section
variable (x : (List (Int × (Int × Unit))) × (Int × (Int × Unit))) (ht : Tb x) (k : List Int) (hk : Kp k x.1.length) (hl : k.length ≤ 1000)
include ht hk hl in
theorem l91_1 : ∀ (m f : Nat) (i : Int) (l : List Int), m < f → 0 ≤ i → i + m = (k.length : Int) - 1 → Sl l → l.length ≤ 1000 →
    L91_1 fuel f ((x, (k, ((), ()))), ()) l i = .ret (decide ((wl x k m i l).length > 0)) ∧ L39_1 fuel f (x, (k, ())) l (i + 1) = .ret (if (wl x k m i l).length = 0 then 1 else 2) := by
  have tl := ht.1
  have hk1 := hk.1
  intro m
  induction m with
  | zero =>
    intro f i l hf hi he hs hll
    obtain ⟨f, rfl⟩ := succ_of hf
    rw [L91_1_succ, L39_1_succ]; try delta lenI
    simp (disch := omega) only [lenE, wr, dF]
    unfold wl
    refine ⟨by congr 1; rw [decide_eq_decide]; omega, ?_⟩
    by_cases h : l.length = 0
    · rw [if_pos h, eT (show (l.length : Int) = 0 by omega)]
    · rw [if_neg h, eF (show (l.length : Int) ≠ 0 by omega)]
  | succ m ih =>
    intro f i l hf hi he hs hll
    obtain ⟨f, rfl⟩ := succ_of hf
    rw [L91_1_succ, L39_1_succ]; try delta lenI
    have e1 : i + 1 - 1 = i := by omega
    have w1 : IntKind.i64.wrap (i + 1 - 1) = i := by rw [e1]; exact wr (by omega) (by omega)
    rw [w1]
    have r1 := kp_range hk hi (show i < k.length by omega)
    have r2 := kp_range hk (show 0 ≤ i + 1 by omega) (show i + 1 < k.length by omega)
    have r3 := hk.2.2.2 (i + 1) (by omega) (by omega)
    rw [e1] at r3
    obtain ⟨c1, c2⟩ := cans x ht r1.1 r3 (by omega) l hs hll k
    obtain ⟨c3, c4⟩ := canL_sl ht (b := List.getD k i.toNat 0) r2.1 (by omega) l
    simp (disch := omega) only [lenE, wr, dT, inbT, cond_true, c1, c2]
    have := ih f (i + 1) (canL x (List.getD k i.toNat 0) (List.getD k (i + 1).toNat 0) l) (by omega) (by omega) (by omega) c3 (by omega)
    unfold wl
    exact this
noncomputable def mayL : List Int := wl x k (k.length - 1) 0 (dl (fun _ => true) (sp' x 0).1 ((sp' x 0).2.1 - (sp' x 0).1 + 1).toNat)
include ht hk hl in
theorem mays : f91 ((x, (k, ((), ()))), ()) = .ret (decide ((mayL x k).length > 0)) ∧ (dub x k ≠ [] → f39 (x, (k, ())) = .ret (if (mayL x k).length = 0 then 1 else 2)) := by
  have hfb := fuel_big
  have tl := ht.1
  have hk1 := hk.1
  have s0 := sp_small ht (show (0 : Int) ≤ 0 by omega) (show (0 : Int) < x.1.length by omega)
  have z : (0 : Int).toNat = 0 := rfl
  have key : ∀ (m f : Nat) (out : List Int) (n : Int), m < f → (sp' x 0).1 ≤ n → n + m = (sp' x 0).2.1 + 1 → out.length + m ≤ 1000 → Sl out →
      L91_0 fuel f ((x, (k, ((), ()))), ()) out n = .ret (decide ((wl x k (k.length - 1) 0 (out ++ dl (fun _ => true) n m)).length > 0)) ∧ L39_0 fuel f (x, (k, ())) out n = .ret (if (wl x k (k.length - 1) 0 (out ++ dl (fun _ => true) n m)).length = 0 then 1 else 2) := by
    intro m
    induction m with
    | zero =>
      intro f out n hf hn he ho hs
      obtain ⟨f, rfl⟩ := succ_of hf
      rw [L91_0_succ, L39_0_succ]; try delta lenI
      have d1 : decide (n ≤ (List.getD x.1 (0 : Int).toNat ((0 : Int), ((0 : Int), ()))).2.1) = false := dF (by unfold sp' at he; omega)
      simp (disch := omega) only [inbT, cond_true, d1]
      unfold dl
      rw [List.append_nil]
      exact l91_1 x ht k hk hl (k.length - 1) fuel 0 out (by omega) (by omega) (by omega) hs (by omega)
    | succ m ih =>
      intro f out n hf hn he ho hs
      obtain ⟨f, rfl⟩ := succ_of hf
      rw [L91_0_succ, L39_0_succ]; try delta lenI
      have d1 : decide (n ≤ (List.getD x.1 (0 : Int).toNat ((0 : Int), ((0 : Int), ()))).2.1) = true := dT (by unfold sp' at he; omega)
      simp (disch := first | omega | (simp; omega)) only [inbT, cond_true, d1, fitsT, wr]
      have hs' : Sl (out ++ [n]) := fun y hy => by
        rcases List.mem_append.1 hy with h | h
        · exact hs y h
        · rw [List.mem_singleton] at h; subst h; omega
      have := ih f (out ++ [n]) (n + 1) (by omega) (by omega) (by omega) (by simp; omega) hs'
      unfold dl
      simpa using this
  obtain ⟨k1, k2⟩ := key ((sp' x 0).2.1 - (sp' x 0).1 + 1).toNat fuel [] (sp' x 0).1 (by omega) (by omega) (by omega) (by rw [List.length_nil]; omega) (fun y hy => by cases hy)
  constructor
  · unfold f91 F91; try delta lenI
    simp (disch := omega) only [inbT, cond_true]
    exact k1
  · intro hd
    unfold f39 F39; try delta lenI
    simp only [f40_at x ht hk hl]
    have hne : (((dub x k).length : Int) == 0) = false := eF (by
      intro h
      exact hd (List.length_eq_zero_iff.1 (by omega)))
    simp (disch := omega) only [hne, inbT, cond_true]
    exact k2
end
theorem words_at (x : (List (Int × (Int × Unit))) × (Int × (Int × Unit))) (ht : Tb x) (k : List Int) (hk : Kp k x.1.length) (hl : k.length ≤ 1000) :
    ∃ w : Int, f36 (x, (k, ())) = .ret (w, (0, ())) ∧ f39 (x, (k, ())) = .ret w ∧ f37 (x, (k, ())) = .ret (dub x k, (0, ())) ∧ 1 ≤ w ∧ w ≤ 3 ∧ (w = 3 ↔ dub x k = []) ∧ (w = 1 ↔ dub x k ≠ [] ∧ mayL x k = []) := by
  obtain ⟨b1, a1, a2⟩ := f77_at x
  obtain rfl : b1 = true := a2.2 ht
  obtain ⟨b2, a3, a4⟩ := f78_at x k (by have := ht.1; omega) hl
  obtain rfl : b2 = true := a4.2 hk
  obtain ⟨b3, a5, a6⟩ := f90_at x ht hk hl
  obtain ⟨m1, m2⟩ := mays x ht k hk hl
  have e37 : f37 (x, (k, ())) = .ret (dub x k, (0, ())) := by
    unfold f37 F37; try delta lenI
    simp only [a1, a3, Bool.not_true, f92_at x ht hk hl]
  by_cases hd : dub x k = []
  · obtain rfl : b3 = true := a6.2 hd
    refine ⟨3, ?_, ?_, e37, by omega, by omega, by simp [hd], by simp [hd]⟩
    · unfold f36 F36; try delta lenI
      simp only [a1, a3, Bool.not_true, a5]
    · unfold f39 F39; try delta lenI
      simp only [f40_at x ht hk hl, hd]
      rfl
  · obtain rfl : b3 = false := by cases b3; rfl; exact absurd (a6.1 rfl) hd
    by_cases hm : (mayL x k).length = 0
    · have hm' : mayL x k = [] := List.length_eq_zero_iff.1 hm
      refine ⟨1, ?_, ?_, e37, by omega, by omega, by simp [hd], by simp [hd, hm']⟩
      · unfold f36 F36; try delta lenI
        simp only [a1, a3, Bool.not_true, a5, m1, dF (show ¬ (mayL x k).length > 0 by omega)]
      · rw [m2 hd, if_pos hm]
    · have hm' : mayL x k ≠ [] := fun h => hm (by rw [h]; rfl)
      refine ⟨2, ?_, ?_, e37, by omega, by omega, by simp [hd], by simp [hm']⟩
      · unfold f36 F36; try delta lenI
        simp only [a1, a3, Bool.not_true, a5, m1, dT (show (mayL x k).length > 0 by omega)]
      · rw [m2 hd, if_neg hm]
end Go.V
namespace Go.V
open Go.Proofs
theorem fi_between {r : Int} {k u : List Int} {n w row : Int} (hk : Kp k n) (hl : k.length ≤ 1000) (w0 : 0 ≤ w) (w1 : w + 1 < k.length) (h1 : List.getD k w.toNat 0 ≤ row) (h2 : row ≤ List.getD k (w + 1).toNat 0) :
    Fi r k row u = fig r (List.getD k w.toNat 0) (List.getD k (w + 1).toNat 0) row (List.getD u (List.getD k w.toNat 0).toNat 0) (List.getD u (List.getD k (w + 1).toNat 0).toNat 0) ∧
    (row ∉ k → bef k row = List.getD k w.toNat 0 ∧ aft k row = List.getD k (w + 1).toNat 0) := by
  have r1 := kp_range hk w0 (show w < k.length by omega)
  have r2 := kp_range hk (show 0 ≤ w + 1 by omega) w1
  have lt := kp_le hk w0 (show w ≤ w + 1 by omega) w1
  obtain ⟨e1, e2, e3⟩ := aro ([], (0, (0, ()))) hk hl (show 0 ≤ row by omega) (show row ≤ n - 1 by omega)
  have m1 := getD_mem w0 (show w < k.length by omega)
  have m2 := getD_mem (show 0 ≤ w + 1 by omega) w1
  generalize ha : List.getD k w.toNat 0 = a at *
  generalize hb : List.getD k (w + 1).toNat 0 = b at *
  have out : row ∉ k → bef k row = a ∧ aft k row = b := by
    intro hm
    refine ar_one e3 ⟨⟨m1, h1⟩, ⟨m2, h2⟩, fun y hy => ?_⟩
    obtain ⟨q, q1, q2, rfl⟩ := mem_getD hy
    by_cases hq : q ≤ w
    · have := kp_le hk q1 hq (show w < k.length by omega)
      rw [ha] at this
      have hne : List.getD k q.toNat 0 ≠ row := fun e => hm (e ▸ hy)
      exact ⟨fun _ => by omega, fun h => by omega⟩
    · have := kp_le hk (show 0 ≤ w + 1 by omega) (show w + 1 ≤ q by omega) q2
      rw [hb] at this
      have hne : List.getD k q.toNat 0 ≠ row := fun e => hm (e ▸ hy)
      exact ⟨fun h => by omega, fun _ => by omega⟩
  refine ⟨?_, out⟩
  by_cases hm : row ∈ k
  · obtain ⟨i1, i2⟩ := ar_in e3 hm
    unfold Fi
    rw [i1, i2, if_pos rfl]
    obtain ⟨q, q1, q2, q3⟩ := mem_getD hm
    by_cases hq : q ≤ w
    · have := kp_le hk q1 hq (show w < k.length by omega)
      have e : row = a := by omega
      rw [e, fig_left (by omega)]
    · have := kp_le hk (show 0 ≤ w + 1 by omega) (show w + 1 ≤ q by omega) q2
      have e : row = b := by omega
      rw [e, fig_right (by omega)]
  · obtain ⟨i1, i2⟩ := out hm
    unfold Fi
    rw [i1, i2, if_neg (by omega)]
theorem fa_kept {x : (List (Int × (Int × Unit))) × (Int × (Int × Unit))} {k : List Int} {n row : Int} (hk : Kp k n) (hl : k.length ≤ 1000) (hm : row ∈ k) : Fa x k row = 0 := by
  obtain ⟨q, q1, q2, q3⟩ := mem_getD hm
  have r1 := kp_range hk q1 q2
  obtain ⟨e1, e2, e3⟩ := aro x hk hl (show 0 ≤ row by omega) (show row ≤ n - 1 by omega)
  obtain ⟨i1, i2⟩ := ar_in e3 hm
  unfold Fa
  rw [i1, i2, if_pos rfl]
def Ki (n s : Int) (out : List Int) (i : Int) : Prop :=
  0 ≤ i ∧ (out.length : Int) ≤ i ∧ (∀ j : Int, 1 ≤ j → j < out.length → List.getD out (j - 1).toNat 0 < List.getD out j.toNat 0) ∧ (out = [] → i = 0) ∧
  (out ≠ [] → List.getD out 0 0 = 0 ∧ List.getD out ((out.length : Int) - 1).toNat 0 < i ∧ List.getD out ((out.length : Int) - 1).toNat 0 < n - 1) ∧ (s = 1 → ∀ j : Int, 0 ≤ j → j < i → j < n - 1 → j ∈ out)
theorem ne_len {l : List Int} : l ≠ [] ↔ 0 < l.length := by
  cases l <;> simp
theorem ki_snoc {n s : Int} {out : List Int} {i : Int} (h : Ki n s out i) (hs : 1 ≤ s) (hi : i < n - 1) : Ki n s (out ++ [i]) (i + s) := by
  obtain ⟨h1, h2, h3, h4, h5, h6⟩ := h
  refine ⟨by omega, by simp; omega, fun j j1 j2 => ?_, fun h => absurd h (by simp), fun _ => ⟨?_, ?_⟩, fun e j j1 j2 j3 => ?_⟩
  · simp only [List.length_append, List.length_cons, List.length_nil] at j2
    rw [getD_snoc _ _ _ (by omega), getD_snoc _ _ _ (by omega), if_neg (by omega)]
    split
    · next e =>
      have hne : out ≠ [] := ne_len.2 (by omega)
      have := (h5 hne).2.1
      have e2 : j - 1 = (out.length : Int) - 1 := by omega
      rw [e2]; exact this
    · exact h3 j j1 (by omega)
  · rw [getD_snoc _ _ _ (by omega)]
    split
    · next e => exact h4 (List.length_eq_zero_iff.1 e.symm)
    · next e => exact (h5 (ne_len.2 (by omega))).1
  · have e : (((out ++ [i]).length : Int) - 1).toNat = out.length := by simp
    rw [e, getD_snoc _ _ _ (by omega), if_pos rfl]
    omega
  · subst e
    by_cases e : j = i
    · subst e; simp
    · exact List.mem_append.2 (.inl (h6 rfl j j1 (by omega) j3))
theorem ki_end {n s : Int} {out : List Int} {i : Int} (h : Ki n s out i) (hn : 2 ≤ n) (hi : ¬ i < n - 1) : Kp (out ++ [n - 1]) n ∧ (s = 1 → ∀ j : Int, 0 ≤ j → j < n → j ∈ out ++ [n - 1]) := by
  obtain ⟨h1, h2, h3, h4, h5, h6⟩ := h
  have hne : out ≠ [] := fun e => by have := h4 e; omega
  have hl := ne_len.1 hne
  obtain ⟨g1, g2, g3⟩ := h5 hne
  refine ⟨⟨by simp; omega, ?_, ?_, fun j j1 j2 => ?_⟩, fun e j j1 j2 => ?_⟩
  · rw [getD_snoc _ _ _ (by omega), if_neg (by omega)]; exact g1
  · have e : (((out ++ [n - 1]).length : Int) - 1).toNat = out.length := by simp
    rw [e, getD_snoc _ _ _ (by omega), if_pos rfl]
  · simp only [List.length_append, List.length_cons, List.length_nil] at j2
    rw [getD_snoc _ _ _ (by omega), getD_snoc _ _ _ (by omega), if_neg (by omega)]
    split
    · next e =>
      have e2 : j - 1 = (out.length : Int) - 1 := by omega
      rw [e2]; exact g3
    · exact h3 j j1 (by omega)
  · by_cases q : j < n - 1
    · exact List.mem_append.2 (.inl (h6 e j j1 (by omega) q))
    · have : j = n - 1 := by omega
      subst this; simp
theorem kp_len {k : List Int} {n : Int} (h : Kp k n) : (k.length : Int) ≤ n := by
  have h1 := h.1
  have := kp_range h (i := (k.length : Int) - 1) (by omega) (by omega)
  omega
theorem keeps_end (x : (List (Int × (Int × Unit))) × (Int × (Int × Unit))) {s : Int} (hn : 2 ≤ x.1.length) (hx : x.1.length ≤ 1000) (f : Nat) (out : List Int) (i : Int) (h2 : i ≤ 3000) (hi : Ki x.1.length s out i) (h : ¬ i < (x.1.length : Int) - 1) :
    ∃ l, L102_0 fuel (f + 1) (x, (s, ())) out i = .ret l ∧ L52_0 fuel (f + 1) (x, (s, ())) out i = .ret l ∧ Kp l x.1.length ∧ (s = 1 → ∀ j : Int, 0 ≤ j → j < x.1.length → j ∈ l) := by
  obtain ⟨k1, k2⟩ := ki_end hi (by omega) h
  have hl : out.length < 4000 := by have := hi.2.1; omega
  rw [L102_0_succ, L52_0_succ]; try delta lenI
  simp (disch := first | omega | (simp; omega)) only [lenE, wr, dF, fitsT, cond_true]
  exact ⟨_, rfl, rfl, k1, k2⟩
theorem keeps_loop (x : (List (Int × (Int × Unit))) × (Int × (Int × Unit))) {s : Int} (hs : 1 ≤ s) (hs2 : s ≤ 1000) (hn : 2 ≤ x.1.length) (hx : x.1.length ≤ 1000) : ∀ (m f : Nat) (out : List Int) (i : Int), m < f → (x.1.length : Int) - 1 - i ≤ m → i ≤ 3000 → Ki x.1.length s out i →
    ∃ l, L102_0 fuel f (x, (s, ())) out i = .ret l ∧ L52_0 fuel f (x, (s, ())) out i = .ret l ∧ Kp l x.1.length ∧ (s = 1 → ∀ j : Int, 0 ≤ j → j < x.1.length → j ∈ l) := by
  intro m
  induction m with
  | zero =>
    intro f out i hf hm h2 hi
    obtain ⟨f, rfl⟩ := succ_of hf
    exact keeps_end x hn hx f out i h2 hi (by omega)
  | succ m ih =>
    intro f out i hf hm h2 hi
    obtain ⟨f, rfl⟩ := succ_of hf
    by_cases h : i < (x.1.length : Int) - 1
    · have hl : out.length < 4000 := by have := hi.2.1; omega
      have hi0 := hi.1
      rw [L102_0_succ, L52_0_succ]; try delta lenI
      simp (disch := first | omega | (simp; omega)) only [lenE, wr, dT, fitsT, cond_true]
      exact ih f (out ++ [i]) (i + s) (by omega) (by omega) (by omega) (ki_snoc hi hs h)
    · exact keeps_end x hn hx f out i h2 hi h
theorem keeps (x : (List (Int × (Int × Unit))) × (Int × (Int × Unit))) (ht : Tb x) {s : Int} (hs : 1 ≤ s) (hs2 : s ≤ 1000) :
    ∃ l, f102 (x, (s, ())) = .ret l ∧ f52 (x, (s, ())) = .ret l ∧ Kp l x.1.length ∧ (s = 1 → ∀ j : Int, 0 ≤ j → j < x.1.length → j ∈ l) := by
  have hf := fuel_big
  have tl := ht.1
  exact keeps_loop x hs hs2 (by omega) (by omega) x.1.length fuel [] 0 (by omega) (by omega) (by omega) ⟨by omega, by simp, fun j j1 j2 => by simp at j2; omega, fun _ => rfl, fun h => absurd rfl h, fun _ j j1 j2 => by omega⟩
end Go.V
namespace Go.V
open Go.Proofs
section
variable {x : (List (Int × (Int × Unit))) × (Int × (Int × Unit))} {k u : List Int}
theorem f22_at (x : (List (Int × (Int × Unit))) × (Int × (Int × Unit))) (k : List Int) : ∃ b, f22 (x, (k, ())) = .ret b ∧ (b = true ↔ x.1.length ≤ 16 ∧ k.length ≤ 16 ∧ Tb x ∧ Kp k x.1.length) := by
  unfold f22 F22; try delta lenI
  by_cases h1 : (x.1.length : Int) ≤ 16
  · by_cases h2 : (k.length : Int) ≤ 16
    · obtain ⟨b, t1, t2, t3⟩ := tab x (by omega)
      simp only [lenE, dT h1, dT h2, t1]
      cases b
      · exact ⟨_, rfl, by simp only [Bool.false_eq_true, false_iff]; exact fun h => by simpa using t3.2 h.2.2.1⟩
      · obtain ⟨c, s1, s2, s3⟩ := kep x k (by omega) (by omega)
        simp only [s1]
        exact ⟨c, rfl, s3.trans ⟨fun h => ⟨by omega, by omega, t3.1 rfl, h⟩, fun h => h.2.2.2⟩⟩
    · simp only [lenE, dT h1, dF h2]
      exact ⟨_, rfl, by simp only [Bool.false_eq_true, false_iff]; omega⟩
  · simp only [lenE, dF h1]
    exact ⟨_, rfl, by simp only [Bool.false_eq_true, false_iff]; omega⟩
end
theorem f41_loop (l : List Int) (y : Int) (hl : l.length ≤ 1000) : ∀ (m f : Nat) (i : Int), m < f → 0 ≤ i → i + m = l.length → L41_0 fuel f (l, (y, ())) i = .ret ((l.drop i.toNat).any (· == y)) := by
  intro m
  induction m with
  | zero =>
    intro f i hf hi he
    obtain ⟨f, rfl⟩ := succ_of hf
    rw [L41_0_succ, drop_end (by omega)]; try delta lenI
    simp (disch := omega) only [lenE, dF]
  | succ m ih =>
    intro f i hf hi he
    obtain ⟨f, rfl⟩ := succ_of hf
    rw [L41_0_succ, drop_any hi (by omega)]; try delta lenI
    simp (disch := omega) only [lenE, dT, inbT, cond_true, wr]
    rw [ih f (i + 1) (by omega) (by omega) (by omega)]
    cases (List.getD l i.toNat 0 == y) <;> rfl
theorem f41_at (l : List Int) (y : Int) (hl : l.length ≤ 1000) : f41 (l, (y, ())) = .ret (decide (y ∈ l)) := by
  have hf := fuel_big
  have h : f41 (l, (y, ())) = .ret ((l.drop (0 : Int).toNat).any (· == y)) := f41_loop l y hl l.length fuel 0 (by omega) (by omega) (by omega)
  rw [h]
  congr 1
  rw [Bool.eq_iff_iff, decide_eq_true_eq]
  simp
theorem at_of {k : List Int} {n row : Int} (hk : Kp k n) (hl : k.length ≤ 1000) (h1 : 0 ≤ row) (h2 : row ≤ n - 1) :
    ∃ r b, f108 (k, (row, ())) = .ret (r, (b, ())) ∧ (b = true ↔ row ∈ k) ∧ (row ∉ k → 0 < r ∧ r < k.length ∧ (∀ q : Int, 0 ≤ q → q < r → List.getD k q.toNat 0 < row) ∧ (∀ q : Int, r ≤ q → q < k.length → row < List.getD k q.toNat 0)) := by
  have hf := fuel_big
  have hlen := hk.1
  obtain ⟨r, b, e, r1, r2, r3, r4, r5⟩ := f108_loop k n row hk hl k.length fuel 0 k.length (by omega) (by omega) (by omega) (by omega) (by omega) (fun q q1 q2 => by omega) (fun q q1 q2 => by omega)
  have hr : r < k.length := by
    have : ¬ (k.length : Int) - 1 < r := fun h => by
      have := r3 ((k.length : Int) - 1) (by omega) h
      rw [hk.2.2.1] at this; omega
    omega
  refine ⟨r, b, e, r5.trans ⟨fun h => h.2 ▸ getD_mem r1 h.1, fun h => ⟨hr, ?_⟩⟩, fun hm => ⟨?_, hr, r3, fun q q1 q2 => ?_⟩⟩
  · obtain ⟨q, q1, q2, rfl⟩ := mem_getD h
    by_cases c : q < r
    · have := r3 q q1 c; omega
    · have a := kp_le hk (i := r) (j := q) r1 (by omega) q2
      have b := r4 r (by omega) hr
      omega
  · have : r ≠ 0 := fun h => by
      subst h
      have a := r4 0 (by omega) (by omega)
      rw [Int.toNat_zero, hk.2.1] at a
      have e0 : row = 0 := by omega
      have m0 := getD_mem (k := k) (j := 0) (by omega) (by omega)
      rw [Int.toNat_zero, hk.2.1] at m0
      exact hm (e0 ▸ m0)
    omega
  · have a := r4 q q1 q2
    have : List.getD k q.toNat 0 ≠ row := fun e => hm (e ▸ getD_mem (by omega) q2)
    omega
end Go.V
