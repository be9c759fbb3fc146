/- A part of the proof of a law of the step table. -/
import Derived.Test.YtpnilbemlgbokaaGreatDoorS3
set_option linter.all false
namespace Go.V
open Go.Proofs
theorem wr {x : Int} (h1 : -9223372036854775808 ≤ x) (h2 : x ≤ 9223372036854775807) : IntKind.i64.wrap x = x := by
  unfold IntKind.wrap
  simp only [IntKind.bits, IntKind.signed]
  simp
  split <;> omega
theorem floor_eq {n p k : Int} (hp : 0 < p) (h1 : k * p ≤ n) (h2 : n < k * p + p) : n / p = k := by
  have a := (Int.le_ediv_iff_mul_le hp).2 h1
  have b : n / p < k + 1 := (Int.ediv_lt_iff_lt_mul hp).2 (by rw [Int.add_mul, Int.one_mul]; exact h2)
  omega
theorem tq (n p : Int) (hp : 0 < p) : ∃ m, n = n.tdiv p * p + m ∧ -p < m ∧ m < p ∧ (0 ≤ n → 0 ≤ m) ∧ (n < 0 → m ≤ 0) := by
  refine ⟨n.tmod p, ?_, ?_, Int.tmod_lt_of_pos n hp, fun h => Int.tmod_nonneg p h, fun h => ?_⟩
  · have := Int.tdiv_mul_add_tmod n p; omega
  · have h := Int.tmod_lt_of_pos (-n) hp
    rw [Int.neg_tmod] at h; omega
  · have := Int.tmod_nonneg (a := -n) p (by omega)
    rw [Int.neg_tmod] at this; omega
theorem tq_small {n p : Int} (hp : 0 < p) {B : Int} (h1 : -B ≤ n) (h2 : n ≤ B) : -B ≤ n.tdiv p ∧ n.tdiv p ≤ B := by
  have := Int.natAbs_tdiv_le_natAbs n p
  omega
theorem down_at (N : Nat) (n p : Int) (hp : 0 < p) (hp2 : p ≤ 1000) (h1 : -1000000 ≤ n) (h2 : n ≤ 1000000) : F127 N ((p, ()), (n, ())) = .ret (n / p) := by
  obtain ⟨m, e, a, b, c, d⟩ := tq n p hp
  obtain ⟨s, t⟩ := tq_small hp h1 h2
  have hne : (p != 0) = true := by simp; omega
  unfold F127
  simp (disch := omega) only [wr, hne, cond_true]
  by_cases hlt : n.tdiv p * p > n
  · simp only [hlt, decide_true]
    congr 1
    refine (floor_eq hp ?_ ?_).symm <;> rw [Int.sub_mul, Int.one_mul] <;> omega
  · simp only [hlt, decide_false]
    congr 1
    exact (floor_eq hp (by omega) (by omega)).symm
theorem fl (n p : Int) (hp : 0 < p) : ∃ R, n = n / p * p + R ∧ 0 ≤ R ∧ R < p := 
  ⟨n % p, (Int.ediv_mul_add_emod n p).symm, Int.emod_nonneg n (by omega), Int.emod_lt_of_pos n hp⟩
noncomputable def rnd (k R p r : Int) : Int :=
  if r = 2 then (if 0 < R then k + 1 else k)
  else if r = 3 then (if p ≤ 2 * R then k + 1 else k)
  else if r = 4 then (if p < 2 * R then k + 1 else if 2 * R = p ∧ k.tmod 2 ≠ 0 then k + 1 else k)
  else k
theorem rnd3 (k R p : Int) : rnd k R p 3 = if p ≤ 2 * R then k + 1 else k := rfl
theorem rnd4 (k R p : Int) : rnd k R p 4 = if p < 2 * R then k + 1 else if 2 * R = p ∧ k.tmod 2 ≠ 0 then k + 1 else k := rfl
theorem par (k : Int) : k.tmod 2 = 0 ↔ k % 2 = 0 := by rw [← Int.dvd_iff_tmod_eq_zero, ← Int.dvd_iff_emod_eq_zero]
theorem fl_small {n p : Int} (hp : 0 < p) {B : Int} (h1 : -B ≤ n) (h2 : n ≤ B) : -B - 1 ≤ n / p ∧ n / p ≤ B := by
  have hB : 0 ≤ B := by omega
  constructor
  · refine (Int.le_ediv_iff_mul_le hp).2 ?_
    have : (B + 1) * 1 ≤ (B + 1) * p := Int.mul_le_mul_of_nonneg_left (by omega) (by omega)
    have e : (-B - 1) * p = -((B + 1) * p) := by rw [← Int.neg_mul]; congr 1; omega
    omega
  · have : n / p < B + 1 := by
      refine (Int.ediv_lt_iff_lt_mul hp).2 ?_
      have : (B + 1) * 1 ≤ (B + 1) * p := Int.mul_le_mul_of_nonneg_left (by omega) (by omega)
      omega
    omega
theorem tail (k R p r : Int) (h1 : -9000000 ≤ k) (h2 : k ≤ 9000000) (a : 0 ≤ R) (b : R < p) (c : p ≤ 1000) :
    (match (r == (2 : Int)) with
      | true =>
        match (decide (R > (0 : Int))) with
        | true =>
          .ret (IntKind.i64.wrap (k + (1 : Int)))
        | false =>
          .ret k
      | false =>
        match (r == (3 : Int)) with
        | true =>
          match (decide ((IntKind.i64.wrap ((2 : Int) * R)) ≥ p)) with
          | true =>
            .ret (IntKind.i64.wrap (k + (1 : Int)))
          | false =>
            .ret k
        | false =>
          match (r == (4 : Int)) with
          | true =>
            match (decide ((IntKind.i64.wrap ((2 : Int) * R)) > p)) with
            | true =>
              .ret (IntKind.i64.wrap (k + (1 : Int)))
            | false =>
              match ((IntKind.i64.wrap ((2 : Int) * R)) == p) with
              | true =>
                match ((k.tmod (2 : Int)) != (0 : Int)) with
                | true =>
                  .ret (IntKind.i64.wrap (k + (1 : Int)))
                | false =>
                  .ret k
              | false =>
                .ret k
          | false =>
            .ret k : Out Int) = .ret (rnd k R p r) := by
  simp (disch := omega) only [wr]
  unfold rnd
  by_cases r2 : r = 2
  · subst r2
    by_cases h : 0 < R <;> simp [h]
  have e2 : (r == 2) = false := by simp [r2]
  rw [if_neg r2, e2]
  by_cases r3 : r = 3
  · subst r3
    by_cases h : p ≤ 2 * R <;> simp [h]
  have e3 : (r == 3) = false := by simp [r3]
  rw [if_neg r3]
  simp only [e3]
  by_cases r4 : r = 4
  · subst r4
    by_cases h : p < 2 * R
    · simp [h]
    · by_cases h' : 2 * R = p
      · have e5 : (2 * R == p) = true := by simp [h']
        by_cases h'' : k.tmod 2 = 0
        · have e6 : (k.tmod 2 != 0) = false := by simp [h'']
          simp [h, e5, e6, h'']
        · have e6 : (k.tmod 2 != 0) = true := by simp [h'']
          simp [h, e5, e6, h', h'']
      · have e5 : (2 * R == p) = false := by simp [h']
        simp [h, e5, h']
  have e4 : (r == 4) = false := by simp [r4]
  rw [if_neg r4]
  simp only [e4]
theorem f88_at (N : Nat) (n p r : Int) (hp : 0 < p) (hp2 : p ≤ 1000) (h1 : -1000000 ≤ n) (h2 : n ≤ 1000000) : F88 N (n, (p, (r, ()))) = .ret (rnd (n / p) (n - n / p * p) p r) := by
  obtain ⟨m, e, a, b, c, d⟩ := tq n p hp
  obtain ⟨s, t⟩ := tq_small hp h1 h2
  obtain ⟨R, e', a', b'⟩ := fl n p hp
  obtain ⟨s', t'⟩ := fl_small hp h1 h2
  have hne : (p != 0) = true := by simp; omega
  have key : (if n < n.tdiv p * p then n.tdiv p - 1 else n.tdiv p) = n / p := by
    split
    · refine (floor_eq hp ?_ ?_).symm <;> rw [Int.sub_mul, Int.one_mul] <;> omega
    · exact (floor_eq hp (by omega) (by omega)).symm
  have w1 : IntKind.i64.wrap (n.tdiv p) = n.tdiv p := wr (by omega) (by omega)
  have w2 : IntKind.i64.wrap (n.tdiv p * p) = n.tdiv p * p := wr (by omega) (by omega)
  have w3 : IntKind.i64.wrap (n.tdiv p - 1) = n.tdiv p - 1 := wr (by omega) (by omega)
  have w4 : IntKind.i64.wrap (n / p * p) = n / p * p := wr (by omega) (by omega)
  have w5 : IntKind.i64.wrap (n - n / p * p) = n - n / p * p := wr (by omega) (by omega)
  unfold F88
  simp only [w1, w2, w3, hne, cond_true]
  by_cases hlt : n < n.tdiv p * p
  · rw [if_pos hlt] at key
    simp only [hlt, decide_true, key, w4, w5]
    exact tail (n / p) _ p r (by omega) (by omega) (by omega) (by omega) hp2
  · rw [if_neg hlt] at key
    simp only [hlt, decide_false]
    simp only [key, w4, w5]
    exact tail (n / p) _ p r (by omega) (by omega) (by omega) (by omega) hp2
theorem in_at (N : Nat) (a b c : Int) : F83 N (a, (b, (c, ()))) = .ret (decide (b ≤ a ∧ a ≤ c)) ∧ F86 N (a, (b, (c, ()))) = .ret (decide (b ≤ a ∧ a ≤ c)) ∧ F72 N (a, (b, (c, ()))) = .ret (decide (b ≤ a ∧ a ≤ c)) := by
  unfold F83 F86 F72
  by_cases h : b ≤ a <;> simp [h]
theorem rule_at (N : Nat) (a : Int) : F84 N (a, ()) = .ret (decide (1 ≤ a ∧ a ≤ 4)) ∧ F87 N (a, ()) = .ret (decide (1 ≤ a ∧ a ≤ 4)) ∧ F30 N (a, ()) = .ret (decide (1 ≤ a ∧ a ≤ 4)) := by
  unfold F84 F87 F30
  by_cases h : 1 ≤ a <;> simp [h]
theorem near_eq {n p R : Int} (hp : 0 < p) (e : n = n / p * p + R) (a : 0 ≤ R) (b : R < p) : (2 * n + p) / (2 * p) = if p ≤ 2 * R then n / p + 1 else n / p := by
  have h1 : n / p * (2 * p) = 2 * (n / p * p) := by rw [← Int.mul_assoc, Int.mul_comm (n / p) 2, Int.mul_assoc]
  split
  · refine floor_eq (by omega) ?_ ?_ <;> rw [Int.add_mul, Int.one_mul, h1] <;> omega
  · refine floor_eq (by omega) ?_ ?_ <;> rw [h1] <;> omega
theorem up_eq {n p R : Int} (hp : 0 < p) (e : n = n / p * p + R) (a : 0 ≤ R) (b : R < p) : (-n) / p = if 0 < R then -(n / p) - 1 else -(n / p) := by
  have h1 : -(n / p) * p = -(n / p * p) := Int.neg_mul ..
  split
  · refine floor_eq (by omega) ?_ ?_ <;> rw [Int.sub_mul, Int.one_mul, h1] <;> omega
  · refine floor_eq (by omega) ?_ ?_ <;> rw [h1] <;> omega
theorem f129_at (N : Nat) (n p : Int) (hp : 0 < p) (hp2 : p ≤ 500) (h1 : -400000 ≤ n) (h2 : n ≤ 400000) : F129 N ((p, ()), (n, ())) = .ret (rnd (n / p) (n - n / p * p) p 3) := by
  obtain ⟨R, e, a, b⟩ := fl n p hp
  have w1 : IntKind.i64.wrap (2 * p) = 2 * p := wr (by omega) (by omega)
  have w2 : IntKind.i64.wrap (2 * n) = 2 * n := wr (by omega) (by omega)
  have w3 : IntKind.i64.wrap (2 * n + p) = 2 * n + p := wr (by omega) (by omega)
  have g : n - n / p * p = R := by omega
  unfold F129 f127
  simp only [w1, w2, w3]
  rw [down_at _ _ _ (by omega) (by omega) (by omega) (by omega), near_eq hp e a b, g]
  rfl
theorem f27_at (N : Nat) (n p r : Int) (hp : 0 < p) (hp2 : p ≤ 500) (h1 : -400000 ≤ n) (h2 : n ≤ 400000) (hr : 1 ≤ r) (hr2 : r ≤ 4) : F27 N (n, (p, (r, ()))) = .ret (rnd (n / p) (n - n / p * p) p r, (0, ())) := by
  obtain ⟨R, e, a, b⟩ := fl n p hp
  obtain ⟨s', t'⟩ := fl_small hp h1 h2
  have g : n - n / p * p = R := by omega
  unfold F27 f83 f84
  simp only [(in_at _ _ _ _).1, (rule_at _ _).1]
  have d1 : decide ((-1099511627776 : Int) ≤ n ∧ n ≤ 1099511627776) = true := by simp; omega
  have d2 : decide ((1 : Int) ≤ p ∧ p ≤ 1048576) = true := by simp; omega
  have d3 : decide ((1 : Int) ≤ r ∧ r ≤ 4) = true := by simp; omega
  simp only [d1, d2, d3, Bool.not_true]
  have c0 : (r == 0) = false := by simp; omega
  rw [c0, cond_false]
  have hcase : r = 1 ∨ r = 2 ∨ r = 3 ∨ r = 4 := by omega
  rcases hcase with rfl | rfl | rfl | rfl
  · show (match f127 ((p, ()), (n, ())) with | .ret r_7 => Out.ret (r_7, ((0 : Int), ())) | .pan p_8 => .pan p_8 | .fail => .fail) = _
    unfold f127
    rw [down_at _ _ _ hp (by omega) (by omega) (by omega)]
    rfl
  · show (match f128 ((p, ()), (n, ())) with | .ret r_7 => Out.ret (r_7, ((0 : Int), ())) | .pan p_8 => .pan p_8 | .fail => .fail) = _
    have w1 : IntKind.i64.wrap (0 - n) = -n := by rw [wr (by omega) (by omega)]; omega
    unfold f128 F128 f127
    simp only [w1]
    rw [down_at _ _ _ hp (by omega) (by omega) (by omega), up_eq hp e a b, g]
    unfold rnd
    by_cases h : 0 < R
    · simp only [h, if_true]
      rw [wr (by omega) (by omega)]
      congr 2; omega
    · simp only [h, if_false, if_true]
      rw [wr (by omega) (by omega)]
      congr 2; omega
  · show (match f129 ((p, ()), (n, ())) with | .ret r_7 => Out.ret (r_7, ((0 : Int), ())) | .pan p_8 => .pan p_8 | .fail => .fail) = _
    unfold f129
    rw [f129_at _ _ _ hp hp2 h1 h2]
  · show (match f130 ((p, ()), (n, ())) with | .ret r_7 => Out.ret (r_7, ((0 : Int), ())) | .pan p_8 => .pan p_8 | .fail => .fail) = _
    have w1 : IntKind.i64.wrap (2 * p) = 2 * p := wr (by omega) (by omega)
    have w2 : IntKind.i64.wrap (2 * n) = 2 * n := wr (by omega) (by omega)
    have w3 : IntKind.i64.wrap (2 * n + p) = 2 * n + p := wr (by omega) (by omega)
    have h1 : n / p * (2 * p) = 2 * (n / p * p) := by rw [← Int.mul_assoc, Int.mul_comm (n / p) 2, Int.mul_assoc]
    have m1 : 2 * p * (n / p) = 2 * (n / p * p) := by rw [Int.mul_comm, h1]
    have m2 : 2 * p * (n / p + 1) = 2 * (n / p * p) + 2 * p := by rw [Int.mul_add, Int.mul_one, m1]
    unfold f130 F130 f129
    simp only []
    rw [f129_at _ _ _ hp hp2 (by omega) (by omega), g]
    rw [rnd3, rnd4]
    simp only [w1, w2, w3]
    by_cases q1 : p ≤ 2 * R
    · simp only [q1, if_true]
      simp only [m2]
      rw [wr (x := 2 * (n / p * p) + 2 * p) (by omega) (by omega)]
      by_cases q2 : p < 2 * R
      · have d4 : (2 * n + p == 2 * (n / p * p) + 2 * p) = false := by simp; omega
        simp only [d4, q2]
        simp
      · have q3 : 2 * R = p := by omega
        have d4 : (2 * n + p == 2 * (n / p * p) + 2 * p) = true := by simp; omega
        have w6 : IntKind.i64.wrap (n / p + 1 - 1) = n / p := by rw [wr (by omega) (by omega)]; omega
        simp only [d4, q2, w6]
        by_cases q4 : (n / p).tmod 2 = 0
        · have d5 : ((n / p + 1).tmod 2 != 0) = true := by
            rw [par] at q4
            simp only [bne_iff_ne, ne_eq]
            rw [par]; omega
          simp [d5, q4]
        · have d5 : ((n / p + 1).tmod 2 != 0) = false := by
            rw [par] at q4
            have : (n / p + 1).tmod 2 = 0 := (par _).2 (by omega)
            rw [this]; rfl
          simp [d5, q3, q4]
    · simp only [q1, if_false]
      have q2 : ¬ p < 2 * R := by omega
      have q3 : ¬ 2 * R = p := by omega
      simp only [m1]
      rw [wr (x := 2 * (n / p * p)) (by omega) (by omega)]
      have d4 : (2 * n + p == 2 * (n / p * p)) = false := by simp; omega
      simp only [d4]
      simp [q1, q2, q3]
theorem fuel_big : 1000000 ≤ fuel := by unfold fuel; decide
theorem same_at (M : Nat) (L : List Int) (hL : L.length ≤ 1000) : ∀ (k j : Nat) (t : Int), 0 ≤ t → t + k = L.length → L31_0 M (k + 1 + j) (L, (L, ())) t = .ret true := by
  intro k
  induction k with
  | zero =>
    intro j t h1 h2
    have e : 0 + 1 + j = j + 1 := by omega
    rw [e, L31_0_succ]
    have d1 : decide (t < lenI L) = false := by unfold lenI; simp; omega
    simp only [d1]
  | succ k ih =>
    intro j t h1 h2
    have e : k + 1 + 1 + j = (k + 1 + j) + 1 := by omega
    rw [e, L31_0_succ]
    have d1 : decide (t < lenI L) = true := by unfold lenI; simp; omega
    have d2 : inb t L.length = true := by unfold inb; simp; omega
    have d3 : (List.getD L t.toNat (0 : Int) != List.getD L t.toNat (0 : Int)) = false := by simp
    have w2 : IntKind.i64.wrap (t + 1) = t + 1 := wr (by omega) (by omega)
    simp only [d1, d2, d3, w2, cond_true]
    exact ih j (t + 1) (by omega) (by omega)
theorem f31_same (L : List Int) (hL : L.length ≤ 1000) : f31 (L, (L, ())) = .ret true := by
  unfold f31 F31
  have d3 : (lenI L != lenI L) = false := by simp
  simp only [d3]
  have hf := fuel_big
  obtain ⟨j, hj⟩ : ∃ j, fuel = L.length + 1 + j := ⟨fuel - (L.length + 1), by omega⟩
  have := same_at fuel L hL L.length j 0 (by omega) (by omega)
  rwa [← hj] at this
end Go.V
namespace Go.V
open Go.Proofs
theorem inbT {i : Int} {n : Nat} (h1 : 0 ≤ i) (h2 : i < n) : inb i n = true := by
  unfold inb; simp [h1, h2]
theorem lenE {α : Type} (l : List α) : lenI l = (l.length : Int) := rfl
theorem dT {p : Prop} [Decidable p] (h : p) : decide p = true := decide_eq_true h
theorem dF {p : Prop} [Decidable p] (h : ¬ p) : decide p = false := decide_eq_false h
theorem eT {a b : Int} (h : a = b) : (a == b) = true := by simp [h]
theorem eF {a b : Int} (h : a ≠ b) : (a == b) = false := by simp [h]
theorem nT {a b : Int} (h : a ≠ b) : (a != b) = true := by simp [h]
theorem nF {a b : Int} (h : a = b) : (a != b) = false := by simp [h]
theorem fitsT {α : Type} {xs ys : List α} (h : xs.length + ys.length < 1000000) : fits xs ys = true := by unfold fits; simp [h]
theorem i72 (a b c : Int) : f72 (a, (b, (c, ()))) = .ret (decide (b ≤ a ∧ a ≤ c)) := (in_at _ _ _ _).2.2
theorem i86 (a b c : Int) : f86 (a, (b, (c, ()))) = .ret (decide (b ≤ a ∧ a ≤ c)) := (in_at _ _ _ _).2.1
theorem r30 (a : Int) : f30 (a, ()) = .ret (decide (1 ≤ a ∧ a ≤ 4)) := (rule_at _ _).2.2
theorem r87 (a : Int) : f87 (a, ()) = .ret (decide (1 ≤ a ∧ a ≤ 4)) := (rule_at _ _).2.1
theorem succ_of {m n : Nat} (h : m < n) : ∃ k, n = k + 1 := ⟨n - 1, by omega⟩
theorem allLoop {L : Nat → Int → Out Bool} {lo len : Int} {c : Bool} (P : Int → Prop)
    (step : ∀ n i, lo ≤ i → i < len → (P i ∧ L (n + 1) i = L n (i + 1)) ∨ (¬ P i ∧ L (n + 1) i = .ret false))
    (done : ∀ n, L (n + 1) len = .ret c) :
    ∀ (m n : Nat) (i : Int), m < n → lo ≤ i → i + m = len → ∃ b, L n i = .ret b ∧ (b = true ↔ (∀ j, i ≤ j → j < len → P j) ∧ c = true) := by
  intro m
  induction m with
  | zero =>
    intro n i hn hi he
    obtain ⟨n, rfl⟩ := succ_of hn
    obtain rfl : i = len := by omega
    exact ⟨c, done n, ⟨fun h => ⟨fun j a b => by omega, h⟩, fun h => h.2⟩⟩
  | succ m ih =>
    intro n i hn hi he
    obtain ⟨n, rfl⟩ := succ_of hn
    rcases step n i hi (by omega) with ⟨hp, e⟩ | ⟨hp, e⟩
    · obtain ⟨b, h1, h2⟩ := ih n (i + 1) (by omega) (by omega) (by omega)
      refine ⟨b, e.trans h1, h2.trans ⟨fun q => ⟨fun j a d => ?_, q.2⟩, fun q => ⟨fun j a d => q.1 j (by omega) d, q.2⟩⟩⟩
      by_cases e : j = i
      · subst e; exact hp
      · exact q.1 j (by omega) d
    · refine ⟨false, e, ⟨fun h => (by cases h), fun q => absurd (q.1 i (by omega) (by omega)) hp⟩⟩
def Sp (s : Int × (Int × Unit)) : Prop := (-9999 ≤ s.1 ∧ s.1 ≤ 9999) ∧ (s.1 ≤ s.2.1 ∧ s.2.1 ≤ 9999) ∧ s.2.1 - s.1 ≤ 4
def Tb (x : (List (Int × (Int × Unit))) × (Int × (Int × Unit))) : Prop :=
  (2 ≤ x.1.length ∧ x.1.length ≤ 13) ∧ (1 ≤ x.2.1 ∧ x.2.1 ≤ 4) ∧ (0 ≤ x.2.2.1 ∧ x.2.2.1 ≤ 100) ∧ ∀ j : Int, 0 ≤ j → j < x.1.length → Sp (List.getD x.1 j.toNat ((0 : Int), ((0 : Int), ())))
theorem f124_at (s : Int × (Int × Unit)) : ∃ b, f124 (s, ()) = .ret b ∧ (b = true ↔ ¬ Sp s) := by
  unfold f124 F124; try delta lenI
  simp only [i86]
  by_cases h1 : -9999 ≤ s.1 ∧ s.1 ≤ 9999
  · simp only [dT h1, Bool.not_true]
    by_cases h2 : s.1 ≤ s.2.1 ∧ s.2.1 ≤ 9999
    · simp (disch := omega) only [dT h2, Bool.not_true, wr]
      refine ⟨_, rfl, ?_⟩
      unfold Sp
      simp [h1, h2]
    · simp only [dF h2, Bool.not_false]
      refine ⟨_, rfl, ?_⟩
      unfold Sp
      simp only [true_iff]; exact fun h => h2 h.2.1
  · simp only [dF h1, Bool.not_false]
    refine ⟨_, rfl, ?_⟩
    unfold Sp
    simp only [true_iff]; exact fun h => h1 h.1
theorem f89_at (s : Int × (Int × Unit)) : ∃ b, f89 (s, ()) = .ret b ∧ (b = true ↔ Sp s) := by
  unfold f89 F89; try delta lenI
  simp only [i72]
  by_cases h1 : -9999 ≤ s.1 ∧ s.1 ≤ 9999
  · simp (disch := omega) only [dT h1, wr]
    refine ⟨_, rfl, ?_⟩
    unfold Sp
    simp only [decide_eq_true_eq, h1, true_and]
    split <;> omega
  · simp only [dF h1]
    refine ⟨_, rfl, ?_⟩
    unfold Sp
    simp only [Bool.false_eq_true, false_iff]; exact fun h => h1 h.1
theorem f46_at (a : Int) : f46 (a, ()) = .ret (decide (0 ≤ a ∧ a ≤ 100)) := by
  unfold f46 F46; try delta lenI
  simp only [i72]
theorem f34_at (x : (List (Int × (Int × Unit))) × (Int × (Int × Unit))) (hx : x.1.length ≤ 1000) : ∃ b, f34 (x, ()) = .ret b ∧ (b = true ↔ Tb x) := by
  have hf := fuel_big
  have key := allLoop (L := fun n i => L34_0 fuel n (x, ()) i) (lo := 0) (len := x.1.length)
    (c := decide ((2 ≤ (x.1.length : Int) ∧ (x.1.length : Int) ≤ 13) ∧ (1 ≤ x.2.1 ∧ x.2.1 ≤ 4) ∧ (0 ≤ x.2.2.1 ∧ x.2.2.1 ≤ 100)))
    (fun j => Sp (List.getD x.1 j.toNat ((0 : Int), ((0 : Int), ()))))
    (fun n i h1 h2 => by
      try dsimp only
      rw [L34_0_succ]; try delta lenI
      obtain ⟨b, e1, e2⟩ := f89_at (List.getD x.1 i.toNat ((0 : Int), ((0 : Int), ())))
      simp (disch := omega) only [lenE, dT, inbT, cond_true, e1, wr]
      cases b
      · right
        exact ⟨fun h => by simpa using e2.2 h, rfl⟩
      · left
        exact ⟨e2.1 rfl, rfl⟩)
    (fun n => by
      try dsimp only
      rw [L34_0_succ]; try delta lenI
      simp only [lenE, dF (Int.lt_irrefl _), i72, r30, f46_at]
      by_cases h1 : 2 ≤ (x.1.length : Int) ∧ (x.1.length : Int) ≤ 13
      · by_cases h2 : 1 ≤ x.2.1 ∧ x.2.1 ≤ 4
        · simp only [dT h1, dT h2]
          congr 1
          rw [decide_eq_decide]
          exact ⟨fun h => ⟨h1, h2, h⟩, fun h => h.2.2⟩
        · simp only [dT h1, dF h2]
          rw [dF (fun h => h2 h.2.1)]
      · simp only [dF h1]
        rw [dF (fun h => h1 h.1)]) x.1.length fuel 0 (by omega) (by omega) (by omega)
  obtain ⟨b, h1, h2⟩ := key
  refine ⟨b, h1, h2.trans ?_⟩
  unfold Tb
  rw [decide_eq_true_eq]
  constructor
  · rintro ⟨a, b, c, d⟩; exact ⟨by omega, c, d, a⟩
  · rintro ⟨a, b, c, d⟩; exact ⟨d, by omega, b, c⟩
theorem f158_loop (x : (List (Int × (Int × Unit))) × (Value × Unit)) (hx : x.1.length ≤ 1000) : ∀ (m n : Nat) (i : Int), m < n → 0 ≤ i → i + m = x.1.length →
    ∃ r, L158a_0 fuel n x i = .ret r ∧ (0 ≤ r ↔ ¬ ∀ j : Int, i ≤ j → j < x.1.length → Sp (List.getD x.1 j.toNat ((0 : Int), ((0 : Int), ())))) := by
  intro m
  induction m with
  | zero =>
    intro n i hn hi he
    obtain ⟨n, rfl⟩ := succ_of hn
    rw [L158a_0_succ]; try delta lenI
    simp (disch := omega) only [lenE, dF]
    refine ⟨_, rfl, ?_⟩
    simp only [show ¬ (0 : Int) ≤ -1 by omega, false_iff, Classical.not_not]
    intro j a b; omega
  | succ m ih =>
    intro n i hn hi he
    obtain ⟨n, rfl⟩ := succ_of hn
    rw [L158a_0_succ]; try delta lenI
    obtain ⟨b, e1, e2⟩ := f124_at (List.getD x.1 i.toNat ((0 : Int), ((0 : Int), ())))
    simp (disch := omega) only [lenE, dT, inbT, cond_true, e1, wr]
    cases b
    · obtain ⟨r, h1, h2⟩ := ih n (i + 1) (by omega) (by omega) (by omega)
      refine ⟨r, h1, h2.trans (not_congr ⟨fun q j a d => ?_, fun q j a d => q j (by omega) d⟩)⟩
      by_cases e : j = i
      · subst e
        exact Classical.byContradiction fun h => by simpa using e2.2 h
      · exact q j (by omega) d
    · refine ⟨i, rfl, ⟨fun _ q => e2.1 rfl (q i (by omega) (by omega)), fun _ => hi⟩⟩
theorem f77_at (x : (List (Int × (Int × Unit))) × (Int × (Int × Unit))) : ∃ b, f77 (x, ()) = .ret b ∧ (b = true ↔ Tb x) := by
  have hf := fuel_big
  unfold f77 F77; try delta lenI
  simp only [i86, r87, lenE]
  by_cases h1 : 2 ≤ (x.1.length : Int) ∧ (x.1.length : Int) ≤ 13
  · by_cases h2 : 1 ≤ x.2.1 ∧ x.2.1 ≤ 4
    · by_cases h3 : 0 ≤ x.2.2.1 ∧ x.2.2.1 ≤ 100
      · obtain ⟨r, e1, e2⟩ := f158_loop (x.1, ((Value.func (.func 124) #[] #[]), ())) (by dsimp only; omega) x.1.length fuel 0 (by omega) (by omega) (by dsimp only; omega)
        have e3 : f123a (x.1, ((Value.func (.func 124) #[] #[]), ())) = .ret (decide (r ≥ 0)) := by
          have e0 : f123a (x.1, ((Value.func (.func 124) #[] #[]), ())) = F123a fuel (x.1, ((Value.func (.func 124) #[] #[]), ())) := (q123a _).symm.trans (e123a fuel (x.1, ((Value.func (.func 124) #[] #[]), ())))
          have e4 : f158a (x.1, ((Value.func (.func 124) #[] #[]), ())) = F158a fuel (x.1, ((Value.func (.func 124) #[] #[]), ())) := (q158a _).symm.trans (e158a fuel (x.1, ((Value.func (.func 124) #[] #[]), ())))
          rw [e0]
          unfold F123a
          simp only [e4]
          unfold F158a
          rw [e1]
        simp only [dT h1, dT h2, dT h3, e3]
        refine ⟨_, rfl, ?_⟩
        unfold Tb
        have : (2 ≤ x.1.length ∧ x.1.length ≤ 13) := by omega
        simp only [this, h2, h3, true_and, and_self]
        rw [Bool.not_eq_true', decide_eq_false_iff_not, ge_iff_le, e2, Classical.not_not]
      · simp only [dT h1, dT h2, dF h3]
        exact ⟨_, rfl, by simp only [Bool.false_eq_true, false_iff]; exact fun h => h3 h.2.2.1⟩
    · simp only [dT h1, dF h2]
      exact ⟨_, rfl, by simp only [Bool.false_eq_true, false_iff]; exact fun h => h2 h.2.1⟩
  · simp only [dF h1]
    exact ⟨_, rfl, by simp only [Bool.false_eq_true, false_iff]; exact fun h => h1 (by have := h.1; omega)⟩
theorem tab (x : (List (Int × (Int × Unit))) × (Int × (Int × Unit))) (hx : x.1.length ≤ 16) : ∃ b, f34 (x, ()) = .ret b ∧ f77 (x, ()) = .ret b ∧ (b = true ↔ Tb x) := by
  obtain ⟨b, h1, h2⟩ := f34_at x (by omega)
  obtain ⟨c, h3, h4⟩ := f77_at x
  have : b = c := Bool.eq_iff_iff.2 (h2.trans h4.symm)
  subst this
  exact ⟨b, h1, h3, h2⟩
def Kp (k : List Int) (n : Int) : Prop :=
  2 ≤ k.length ∧ List.getD k 0 0 = 0 ∧ List.getD k ((k.length : Int) - 1).toNat 0 = n - 1 ∧ ∀ j : Int, 1 ≤ j → j < k.length → List.getD k (j - 1).toNat 0 < List.getD k j.toNat 0
theorem kp_mono {k : List Int} {n : Int} (h : Kp k n) : ∀ (d : Nat) (i : Int), 0 ≤ i → i + d < k.length → List.getD k i.toNat 0 + d ≤ List.getD k (i + d).toNat 0 := by
  intro d
  induction d with
  | zero => intro i h1 h2; simp
  | succ d ih =>
    intro i h1 h2
    have a := ih i h1 (by omega)
    have b := h.2.2.2 (i + d + 1) (by omega) (by omega)
    have e1 : i + (d : Int) + 1 - 1 = i + d := by omega
    have e2 : i + ((d + 1 : Nat) : Int) = i + d + 1 := by omega
    rw [e1] at b
    rw [e2]; omega
theorem kp_le {k : List Int} {n : Int} (h : Kp k n) {i j : Int} (h1 : 0 ≤ i) (h2 : i ≤ j) (h3 : j < k.length) : List.getD k i.toNat 0 + (j - i) ≤ List.getD k j.toNat 0 := by
  have := kp_mono h (j - i).toNat i h1 (by omega)
  have e : i + ((j - i).toNat : Int) = j := by omega
  rw [e] at this; omega
theorem kp_range {k : List Int} {n : Int} (h : Kp k n) {i : Int} (h1 : 0 ≤ i) (h2 : i < k.length) : 0 ≤ List.getD k i.toNat 0 ∧ List.getD k i.toNat 0 ≤ n - 1 ∧ i ≤ List.getD k i.toNat 0 := by
  have a := kp_le h (i := 0) (by omega) h1 h2
  have b := kp_le h (i := i) (j := k.length - 1) h1 (by omega) (by omega)
  have c := h.2.1
  have d := h.2.2.1
  rw [d] at b
  simp only [Int.toNat_zero, c] at a
  omega
theorem f38_at (x : (List (Int × (Int × Unit))) × (Int × (Int × Unit))) (k : List Int) (hx : x.1.length ≤ 1000) (hk : k.length ≤ 1000) : ∃ b, f38 (x, (k, ())) = .ret b ∧ (b = true ↔ Kp k x.1.length) := by
  have hf := fuel_big
  unfold f38 F38; try delta lenI
  try dsimp only
  by_cases h1 : (k.length : Int) < 2
  · simp only [lenE, dT h1]
    exact ⟨_, rfl, by simp only [Bool.false_eq_true, false_iff]; exact fun h => by have := h.1; omega⟩
  · simp (disch := omega) only [lenE, dF h1, inbT, cond_true, wr, Int.toNat_zero]
    by_cases h2 : List.getD k 0 0 = 0
    · simp only [nF h2]
      by_cases h3 : List.getD k ((k.length : Int) - 1).toNat 0 = (x.1.length : Int) - 1
      · simp only [nF h3]
        obtain ⟨b, e1, e2⟩ := allLoop (L := fun n i => L38_0 fuel n (x, (k, ())) i) (lo := 1) (len := k.length) (c := true)
          (fun j => List.getD k (j - 1).toNat 0 < List.getD k j.toNat 0)
          (fun n i q1 q2 => by
            try dsimp only
            rw [L38_0_succ]; try delta lenI
            simp (disch := omega) only [lenE, dT, inbT, cond_true, wr]
            by_cases q3 : List.getD k i.toNat 0 ≤ List.getD k (i - 1).toNat 0
            · right; simp only [dT q3]; exact ⟨by omega, (by trivial)⟩
            · left; simp only [dF q3]; exact ⟨by omega, (by trivial)⟩)
          (fun n => by
            try dsimp only
            rw [L38_0_succ]; try delta lenI
            simp only [lenE, dF (Int.lt_irrefl _)]) (k.length - 1) fuel 1 (by omega) (by omega) (by omega)
        refine ⟨b, e1, e2.trans ?_⟩
        unfold Kp
        simp only [h2, h3, and_true, true_and]
        exact ⟨fun h => ⟨by omega, h⟩, fun h => h.2⟩
      · simp only [nT h3]
        exact ⟨_, rfl, by simp only [Bool.false_eq_true, false_iff]; exact fun h => h3 h.2.2.1⟩
    · simp only [nT h2]
      exact ⟨_, rfl, by simp only [Bool.false_eq_true, false_iff]; exact fun h => h2 h.2.1⟩
theorem f78_at (x : (List (Int × (Int × Unit))) × (Int × (Int × Unit))) (k : List Int) (hx : x.1.length ≤ 1000) (hk : k.length ≤ 1000) : ∃ b, f78 (x, (k, ())) = .ret b ∧ (b = true ↔ Kp k x.1.length) := by
  have hf := fuel_big
  unfold f78 F78; try delta lenI
  have done : ∃ c, (∀ n, L78_0 fuel (n + 1) (x, (k, ())) k.length = .ret c) ∧ (c = true ↔ (2 ≤ k.length ∧ List.getD k 0 0 = 0 ∧ List.getD k ((k.length : Int) - 1).toNat 0 = (x.1.length : Int) - 1)) := by
    by_cases h1 : (k.length : Int) ≥ 2
    · by_cases h2 : List.getD k 0 0 = 0
      · refine ⟨(List.getD k ((k.length : Int) - 1).toNat 0 == (x.1.length : Int) - 1), fun n => ?_, ?_⟩
        · rw [L78_0_succ]; try delta lenI
          simp (disch := omega) only [lenE, dF (Int.lt_irrefl _), dT h1, inbT, cond_true, Int.toNat_zero, eT h2, wr]
        · simp only [beq_iff_eq, h2, true_and]
          exact ⟨fun h => ⟨by omega, h⟩, fun h => h.2⟩
      · refine ⟨false, fun n => ?_, ?_⟩
        · rw [L78_0_succ]; try delta lenI
          simp (disch := omega) only [lenE, dF (Int.lt_irrefl _), dT h1, inbT, cond_true, Int.toNat_zero, eF h2, wr]
        · simp only [Bool.false_eq_true, false_iff]; exact fun h => h2 h.2.1
    · refine ⟨false, fun n => ?_, ?_⟩
      · rw [L78_0_succ]; try delta lenI
        simp only [lenE, dF (Int.lt_irrefl _), dF h1]
      · simp only [Bool.false_eq_true, false_iff]; omega
  obtain ⟨c, d1, d2⟩ := done
  obtain ⟨b, e1, e2⟩ := allLoop (L := fun n i => L78_0 fuel n (x, (k, ())) i) (lo := 0) (len := k.length) (c := c)
    (fun j => (0 ≤ List.getD k j.toNat 0 ∧ List.getD k j.toNat 0 ≤ (x.1.length : Int) - 1) ∧ (0 < j → List.getD k (j - 1).toNat 0 < List.getD k j.toNat 0))
    (fun n i q1 q2 => by
      try dsimp only
      rw [L78_0_succ]; try delta lenI
      simp (disch := omega) only [lenE, dT, inbT, cond_true, wr, i86]
      by_cases q3 : 0 ≤ List.getD k i.toNat 0 ∧ List.getD k i.toNat 0 ≤ (x.1.length : Int) - 1
      · simp only [dT q3, Bool.not_true]
        by_cases q4 : i > 0
        · simp (disch := omega) only [dT q4, inbT, cond_true]
          by_cases q5 : List.getD k i.toNat 0 ≤ List.getD k (i - 1).toNat 0
          · right; simp only [dT q5]; exact ⟨fun h => by have := h.2 q4; omega, (by trivial)⟩
          · left; simp only [dF q5]; exact ⟨⟨q3, fun _ => by omega⟩, (by trivial)⟩
        · left; simp only [dF q4]; exact ⟨⟨q3, fun h => absurd h q4⟩, (by trivial)⟩
      · right; simp only [dF q3, Bool.not_false]; exact ⟨fun h => q3 h.1, (by trivial)⟩)
    d1 k.length fuel 0 (by omega) (by omega) (by omega)
  refine ⟨b, e1, e2.trans ?_⟩
  rw [d2]
  constructor
  · rintro ⟨a, b1, b2, b3⟩
    exact ⟨b1, b2, b3, fun j j1 j2 => (a j (by omega) j2).2 (by omega)⟩
  · intro h
    exact ⟨fun j j1 j2 => ⟨⟨(kp_range h j1 j2).1, (kp_range h j1 j2).2.1⟩, fun j3 => h.2.2.2 j (by omega) j2⟩, h.1, h.2.1, h.2.2.1⟩
theorem kep (x : (List (Int × (Int × Unit))) × (Int × (Int × Unit))) (k : List Int) (hx : x.1.length ≤ 16) (hk : k.length ≤ 1000) : ∃ b, f38 (x, (k, ())) = .ret b ∧ f78 (x, (k, ())) = .ret b ∧ (b = true ↔ Kp k x.1.length) := by
  obtain ⟨b, h1, h2⟩ := f38_at x k (by omega) (by omega)
  obtain ⟨c, h3, h4⟩ := f78_at x k (by omega) (by omega)
  have : b = c := Bool.eq_iff_iff.2 (h2.trans h4.symm)
  subst this
  exact ⟨b, h1, h3, h2⟩
def Tru (x : (List (Int × (Int × Unit))) × (Int × (Int × Unit))) (u : List Int) : Prop :=
  u.length = x.1.length ∧ ∀ j : Int, 0 ≤ j → j < x.1.length → (List.getD x.1 j.toNat ((0 : Int), ((0 : Int), ()))).1 ≤ List.getD u j.toNat 0 ∧ List.getD u j.toNat 0 ≤ (List.getD x.1 j.toNat ((0 : Int), ((0 : Int), ()))).2.1
theorem tru (x : (List (Int × (Int × Unit))) × (Int × (Int × Unit))) (u : List Int) (hx : x.1.length ≤ 16) : ∃ b, f23 (x, (u, ())) = .ret b ∧ f79 (x, (u, ())) = .ret b ∧ (b = true ↔ Tru x u) := by
  have hf := fuel_big
  unfold f23 F23 f79 F79; try delta lenI
  try dsimp only
  by_cases h1 : (u.length : Int) = x.1.length
  · simp only [lenE, nF h1]
    obtain ⟨b, e1, e2⟩ := allLoop (L := fun n i => L23_0 fuel n (x, (u, ())) i) (lo := 0) (len := u.length) (c := true)
      (fun j => (List.getD x.1 j.toNat ((0 : Int), ((0 : Int), ()))).1 ≤ List.getD u j.toNat 0 ∧ List.getD u j.toNat 0 ≤ (List.getD x.1 j.toNat ((0 : Int), ((0 : Int), ()))).2.1)
      (fun n i q1 q2 => by
        try dsimp only
        rw [L23_0_succ]; try delta lenI
        simp (disch := omega) only [lenE, dT, inbT, cond_true, wr, i72]
        by_cases q3 : (List.getD x.1 i.toNat ((0 : Int), ((0 : Int), ()))).1 ≤ List.getD u i.toNat 0 ∧ List.getD u i.toNat 0 ≤ (List.getD x.1 i.toNat ((0 : Int), ((0 : Int), ()))).2.1
        · left; simp only [dT q3]; exact ⟨q3, (by trivial)⟩
        · right; simp only [dF q3]; exact ⟨q3, (by trivial)⟩)
      (fun n => by
        try dsimp only
        rw [L23_0_succ]; try delta lenI
        simp only [lenE, dF (Int.lt_irrefl _)]) u.length fuel 0 (by omega) (by omega) (by omega)
    obtain ⟨b', e1', e2'⟩ := allLoop (L := fun n i => L79_0 fuel n (x, (u, ())) i) (lo := 0) (len := u.length) (c := true)
      (fun j => (List.getD x.1 j.toNat ((0 : Int), ((0 : Int), ()))).1 ≤ List.getD u j.toNat 0 ∧ List.getD u j.toNat 0 ≤ (List.getD x.1 j.toNat ((0 : Int), ((0 : Int), ()))).2.1)
      (fun n i q1 q2 => by
        try dsimp only
        rw [L79_0_succ]; try delta lenI
        simp (disch := omega) only [lenE, dT, inbT, cond_true, wr, i86]
        by_cases q3 : (List.getD x.1 i.toNat ((0 : Int), ((0 : Int), ()))).1 ≤ List.getD u i.toNat 0 ∧ List.getD u i.toNat 0 ≤ (List.getD x.1 i.toNat ((0 : Int), ((0 : Int), ()))).2.1
        · left; simp only [dT q3]; exact ⟨q3, (by trivial)⟩
        · right; simp only [dF q3]; exact ⟨q3, (by trivial)⟩)
      (fun n => by
        try dsimp only
        rw [L79_0_succ]; try delta lenI
        simp only [lenE, dF (Int.lt_irrefl _)]) u.length fuel 0 (by omega) (by omega) (by omega)
    have : b = b' := Bool.eq_iff_iff.2 (e2.trans e2'.symm)
    subst this
    refine ⟨b, e1, e1', e2.trans ?_⟩
    unfold Tru
    simp only [and_true, h1]
    exact ⟨fun h => ⟨by omega, h⟩, fun h => h.2⟩
  · simp only [lenE, nT h1]
    exact ⟨_, rfl, rfl, by simp only [Bool.false_eq_true, false_iff]; exact fun h => h1 (by have := h.1; omega)⟩
theorem tr_small {x : (List (Int × (Int × Unit))) × (Int × (Int × Unit))} {u : List Int} (ht : Tb x) (h : Tru x u) {j : Int} (h1 : 0 ≤ j) (h2 : j < x.1.length) : -9999 ≤ List.getD u j.toNat 0 ∧ List.getD u j.toNat 0 ≤ 9999 := by
  have a := h.2 j h1 h2
  have b := ht.2.2.2 j h1 h2
  unfold Sp at b; omega
def Ar (k : List Int) (row b a : Int) : Prop := (b ∈ k ∧ b ≤ row) ∧ (a ∈ k ∧ row ≤ a) ∧ ∀ y ∈ k, (y ≤ row → y ≤ b) ∧ (row ≤ y → a ≤ y)
theorem ar_one {k : List Int} {row b a b' a' : Int} (h : Ar k row b a) (h' : Ar k row b' a') : b = b' ∧ a = a' := by
  have q1 := (h.2.2 b' h'.1.1).1 h'.1.2
  have q2 := (h'.2.2 b h.1.1).1 h.1.2
  have q3 := (h.2.2 a' h'.2.1.1).2 h'.2.1.2
  have q4 := (h'.2.2 a h.2.1.1).2 h.2.1.2
  omega
theorem ar_in {k : List Int} {row b a : Int} (h : Ar k row b a) (hm : row ∈ k) : b = row ∧ a = row :=
  ar_one h ⟨⟨hm, Int.le_refl _⟩, ⟨hm, Int.le_refl _⟩, fun y _ => ⟨id, id⟩⟩
theorem ar_out {k : List Int} {row b a : Int} (h : Ar k row b a) (hm : ¬ row ∈ k) : b < row ∧ row < a := by
  have h1 : b ≠ row := fun e => hm (e ▸ h.1.1)
  have h2 : a ≠ row := fun e => hm (e ▸ h.2.1.1)
  have := h.1.2; have := h.2.1.2
  omega
theorem getD_lt {l : List Int} {i : Nat} (h : i < l.length) : List.getD l i 0 = l[i] := by
  rw [List.getD_eq_getElem?_getD, List.getElem?_eq_getElem h]; rfl
theorem getD_mem {k : List Int} {j : Int} (h1 : 0 ≤ j) (h2 : j < k.length) : List.getD k j.toNat 0 ∈ k := by
  have h3 : j.toNat < k.length := by omega
  rw [getD_lt h3]
  exact List.getElem_mem h3
theorem mem_getD {k : List Int} {y : Int} (h : y ∈ k) : ∃ j : Int, 0 ≤ j ∧ j < k.length ∧ List.getD k j.toNat 0 = y := by
  obtain ⟨i, hi, e⟩ := List.mem_iff_getElem.1 h
  refine ⟨i, by omega, by omega, ?_⟩
  rw [Int.toNat_natCast, getD_lt hi, e]
theorem f134_loop (k : List Int) (row : Int) (hk : k.length ≤ 1000) : ∀ (m n : Nat) (b a i : Int), m < n → 0 ≤ i → i + m = k.length →
    (b ∈ k ∧ b ≤ row) → (a ∈ k ∧ row ≤ a) → (∀ j : Int, 0 ≤ j → j < i → (List.getD k j.toNat 0 ≤ row → List.getD k j.toNat 0 ≤ b) ∧ (row ≤ List.getD k j.toNat 0 → a ≤ List.getD k j.toNat 0)) →
    ∃ b' a', L134_0 fuel n (k, (row, ())) b a i = .ret (b', (a', ())) ∧ Ar k row b' a' := by
  intro m
  induction m with
  | zero =>
    intro n b a i hn hi he hb ha hall
    obtain ⟨n, rfl⟩ := succ_of hn
    rw [L134_0_succ]; try delta lenI
    simp (disch := omega) only [lenE, dF]
    refine ⟨b, a, rfl, hb, ha, fun y hy => ?_⟩
    obtain ⟨j, j1, j2, rfl⟩ := mem_getD hy
    exact hall j j1 (by omega)
  | succ m ih =>
    intro n b a i hn hi he hb ha hall
    obtain ⟨n, rfl⟩ := succ_of hn
    rw [L134_0_succ]; try delta lenI
    have hm : List.getD k i.toNat 0 ∈ k := getD_mem hi (by omega)
    simp (disch := omega) only [lenE, dT, inbT, cond_true, wr]
    generalize hg : List.getD k i.toNat 0 = g at *
    have next : ∀ b' a', (b' ∈ k ∧ b' ≤ row) → (a' ∈ k ∧ row ≤ a') → b ≤ b' → a' ≤ a → (g ≤ row → g ≤ b') → (row ≤ g → a' ≤ g) →
        ∃ b'' a'', L134_0 fuel n (k, (row, ())) b' a' (i + 1) = .ret (b'', (a'', ())) ∧ Ar k row b'' a'' := by
      intro b' a' hb' ha' l1 l2 l3 l4
      refine ih n b' a' (i + 1) (by omega) (by omega) (by omega) hb' ha' fun j j1 j2 => ?_
      by_cases e : j = i
      · subst e; rw [hg]; exact ⟨l3, l4⟩
      · have := hall j j1 (by omega)
        exact ⟨fun h => by have := this.1 h; omega, fun h => by have := this.2 h; omega⟩
    by_cases h1 : g ≤ row
    · simp only [dT h1]
      have hb2 : (if g > b then g else b) ∈ k ∧ (if g > b then g else b) ≤ row := by split; exact ⟨hm, h1⟩; exact hb
      by_cases h2 : g ≥ row
      · simp only [dT h2]
        have ha2 : (if g < a then g else a) ∈ k ∧ row ≤ (if g < a then g else a) := by split; exact ⟨hm, h2⟩; exact ha
        exact next _ _ hb2 ha2 (by split <;> omega) (by split <;> omega) (by intro; split <;> omega) (by intro; split <;> omega)
      · simp only [dF h2]
        exact next _ _ hb2 ha (by split <;> omega) (by omega) (by intro; split <;> omega) (by intro; omega)
    · simp only [dF h1]
      by_cases h2 : g ≥ row
      · simp only [dT h2]
        have ha2 : (if g < a then g else a) ∈ k ∧ row ≤ (if g < a then g else a) := by split; exact ⟨hm, h2⟩; exact ha
        exact next _ _ hb ha2 (by omega) (by split <;> omega) (by intro; omega) (by intro; split <;> omega)
      · omega
theorem f134_at (k : List Int) (n row : Int) (hk : Kp k n) (hl : k.length ≤ 1000) (h1 : 0 ≤ row) (h2 : row ≤ n - 1) : ∃ b a, f134 (k, (row, ())) = .ret (b, (a, ())) ∧ Ar k row b a := by
  have hf := fuel_big
  have hlen := hk.1
  unfold f134 F134; try delta lenI
  try dsimp only
  simp (disch := omega) only [lenE, inbT, cond_true, wr, Int.toNat_zero]
  have m0 := getD_mem (k := k) (j := 0) (by omega) (by omega)
  have m1 := getD_mem (k := k) (j := (k.length : Int) - 1) (by omega) (by omega)
  rw [Int.toNat_zero] at m0
  rw [hk.2.1] at m0 ⊢
  rw [hk.2.2.1] at m1 ⊢
  exact f134_loop k row hl k.length fuel 0 (n - 1) 0 (by omega) (by omega) (by omega) ⟨m0, h1⟩ ⟨m1, h2⟩ (fun j j1 j2 => by omega)
theorem half {s : Int} (h1 : 0 ≤ s) (h2 : s ≤ 1000000) : IntKind.i64.wrap ((IntKind.u64.wrap s).fdiv (2 ^ (min (1 : Int).toNat IntKind.u64.bits))) = s / 2 := by
  have e : IntKind.u64.wrap s = s := by
    unfold IntKind.wrap
    simp only [IntKind.bits, IntKind.signed]
    simp
    omega
  rw [e]
  have e2 : (2 : Int) ^ (min (1 : Int).toNat IntKind.u64.bits) = 2 := rfl
  rw [e2, Int.fdiv_eq_ediv_of_nonneg _ (by omega)]
  exact wr (by omega) (by omega)
theorem f143_at (a b : Int) : f143 (a, (b, ())) = .ret (decide (a < b)) := by
  unfold f143 F143; try delta lenI
  simp only [nF]
theorem f108_loop (k : List Int) (n row : Int) (hk : Kp k n) (hl : k.length ≤ 1000) : ∀ (m f : Nat) (i j : Int), m < f → 0 ≤ i → i ≤ j → j ≤ k.length → j - i ≤ m →
    (∀ q : Int, 0 ≤ q → q < i → List.getD k q.toNat 0 < row) → (∀ q : Int, j ≤ q → q < k.length → row ≤ List.getD k q.toNat 0) →
    ∃ r b, L108_0 fuel f (k, (row, ())) i j = .ret (r, (b, ())) ∧ 0 ≤ r ∧ r ≤ k.length ∧ (∀ q : Int, 0 ≤ q → q < r → List.getD k q.toNat 0 < row) ∧ (∀ q : Int, r ≤ q → q < k.length → row ≤ List.getD k q.toNat 0) ∧ (b = true ↔ r < k.length ∧ List.getD k r.toNat 0 = row) := by
  intro m
  induction m with
  | zero =>
    intro f i j hn hi hij hj hm lo hi'
    obtain ⟨f, rfl⟩ := succ_of hn
    obtain rfl : i = j := by omega
    rw [L108_0_succ]; try delta lenI
    simp only [dF (Int.lt_irrefl _), lenE]
    by_cases h1 : i < k.length
    · simp (disch := omega) only [dT h1, inbT, cond_true]
      by_cases h2 : List.getD k i.toNat 0 = row
      · simp only [eT h2]
        exact ⟨i, true, rfl, hi, by omega, lo, hi', by simp only [true_iff]; exact ⟨h1, h2⟩⟩
      · simp only [eF h2, nF]
        exact ⟨i, false, rfl, hi, by omega, lo, hi', by simp only [Bool.false_eq_true, false_iff]; exact fun h => h2 h.2⟩
    · simp only [dF h1]
      exact ⟨i, false, rfl, hi, by omega, lo, hi', by simp only [Bool.false_eq_true, false_iff]; exact fun h => h1 h.1⟩
  | succ m ih =>
    intro f i j hn hi hij hj hm lo hi'
    by_cases e : i = j
    · exact ih f i j (by omega) hi hij hj (by omega) lo hi'
    · obtain ⟨f, rfl⟩ := succ_of hn
      rw [L108_0_succ]; try delta lenI
      have w : IntKind.i64.wrap (i + j) = i + j := wr (by omega) (by omega)
      simp only [w, half (show 0 ≤ i + j by omega) (by omega)]
      simp (disch := omega) only [dT, lenE, inbT, cond_true, f143_at, wr]
      by_cases h : List.getD k ((i + j) / 2).toNat 0 < row
      · simp only [dT h]
        refine ih f ((i + j) / 2 + 1) j (by omega) (by omega) (by omega) hj (by omega) (fun q q1 q2 => ?_) hi'
        have := kp_le hk (i := q) (j := (i + j) / 2) q1 (by omega) (by omega)
        omega
      · simp only [dF h]
        refine ih f i ((i + j) / 2) (by omega) (by omega) (by omega) (by omega) (by omega) lo (fun q q1 q2 => ?_)
        have := kp_le hk (i := (i + j) / 2) (j := q) (by omega) q1 q2
        omega
theorem f99_at (x : (List (Int × (Int × Unit))) × (Int × (Int × Unit))) (k : List Int) (n row : Int) (hk : Kp k n) (hl : k.length ≤ 1000) (h1 : 0 ≤ row) (h2 : row ≤ n - 1) : ∃ b a, f99 ((x, (k, ((), ()))), (row, ())) = .ret (b, (a, ())) ∧ Ar k row b a := by
  have hf := fuel_big
  have hlen := hk.1
  obtain ⟨r, b, e, r1, r2, r3, r4, r5⟩ := f108_loop k n row hk hl k.length fuel 0 k.length (by omega) (by omega) (by omega) (by omega) (by omega) (fun q q1 q2 => by omega) (fun q q1 q2 => by omega)
  unfold f99 F99 f108 F108; try delta lenI
  try dsimp only
  rw [e]
  try dsimp only
  have hr : r < k.length := by
    have : ¬ (k.length : Int) - 1 < r := fun h => by
      have := r3 ((k.length : Int) - 1) (by omega) h
      rw [hk.2.2.1] at this; omega
    omega
  cases b
  · have hne : List.getD k r.toNat 0 ≠ row := fun h => by simpa using r5.2 ⟨hr, h⟩
    have hr0 : 0 < r := by
      have : r ≠ 0 := fun h => by
        subst h
        have := r4 0 (by omega) (by omega)
        rw [Int.toNat_zero, hk.2.1] at this hne
        omega
      omega
    simp (disch := omega) only [wr, inbT, cond_true]
    refine ⟨_, _, rfl, ⟨getD_mem (by omega) (by omega), ?_⟩, ⟨getD_mem (by omega) (by omega), r4 r (by omega) hr⟩, fun y hy => ?_⟩
    · have := r3 (r - 1) (by omega) (by omega); omega
    · obtain ⟨q, q1, q2, rfl⟩ := mem_getD hy
      by_cases hq : q < r
      · have a1 := r3 q q1 hq
        have a2 := kp_le hk (i := q) (j := r - 1) q1 (by omega) (by omega)
        exact ⟨fun _ => by omega, fun h => by omega⟩
      · have a1 := r4 q (by omega) q2
        have a2 := kp_le hk (i := r) (j := q) (by omega) (by omega) (by omega)
        have a3 := r4 r (by omega) hr
        exact ⟨fun h => by omega, fun _ => by omega⟩
  · have he := (r5.1 rfl).2
    have hm : row ∈ k := he ▸ getD_mem r1 hr
    exact ⟨row, row, rfl, ⟨hm, Int.le_refl _⟩, ⟨hm, Int.le_refl _⟩, fun y _ => ⟨id, id⟩⟩
noncomputable def bef (k : List Int) (row : Int) : Int := match f134 (k, (row, ())) with | .ret r => r.1 | _ => 0
noncomputable def aft (k : List Int) (row : Int) : Int := match f134 (k, (row, ())) with | .ret r => r.2.1 | _ => 0
theorem aro (x : (List (Int × (Int × Unit))) × (Int × (Int × Unit))) {k : List Int} {n row : Int} (hk : Kp k n) (hl : k.length ≤ 1000) (h1 : 0 ≤ row) (h2 : row ≤ n - 1) :
    f134 (k, (row, ())) = .ret (bef k row, (aft k row, ())) ∧ f99 ((x, (k, ((), ()))), (row, ())) = .ret (bef k row, (aft k row, ())) ∧ Ar k row (bef k row) (aft k row) := by
  obtain ⟨b, a, e1, e2⟩ := f134_at k n row hk hl h1 h2
  obtain ⟨b', a', e3, e4⟩ := f99_at x k n row hk hl h1 h2
  obtain ⟨rfl, rfl⟩ := ar_one e2 e4
  unfold bef aft
  rw [e1]
  exact ⟨rfl, e3, e2⟩
theorem ar_range {k : List Int} {n row b a : Int} (hk : Kp k n) (h : Ar k row b a) : 0 ≤ b ∧ a ≤ n - 1 ∧ b ≤ row ∧ row ≤ a ∧ (b = a → b = row) ∧ (b ≠ a → b < row ∧ row < a) := by
  obtain ⟨j, j1, j2, e1⟩ := mem_getD h.1.1
  obtain ⟨i, i1, i2, e2⟩ := mem_getD h.2.1.1
  have a1 := kp_range hk j1 j2
  have a2 := kp_range hk i1 i2
  refine ⟨by omega, by omega, h.1.2, h.2.1.2, fun e => ?_, fun e => ?_⟩
  · have := h.1.2; have := h.2.1.2; omega
  · by_cases hm : row ∈ k
    · have := ar_in h hm; omega
    · exact ar_out h hm
abbrev sp' (x : (List (Int × (Int × Unit))) × (Int × (Int × Unit))) (j : Int) : Int × (Int × Unit) := List.getD x.1 j.toNat ((0 : Int), ((0 : Int), ()))
theorem sp_small {x : (List (Int × (Int × Unit))) × (Int × (Int × Unit))} (ht : Tb x) {j : Int} (h1 : 0 ≤ j) (h2 : j < x.1.length) :
    -9999 ≤ (sp' x j).1 ∧ (sp' x j).1 ≤ (sp' x j).2.1 ∧ (sp' x j).2.1 ≤ 9999 ∧ (sp' x j).2.1 - (sp' x j).1 ≤ 4 := by
  have := ht.2.2.2 j h1 h2
  unfold Sp at this
  unfold sp'
  omega
end Go.V
