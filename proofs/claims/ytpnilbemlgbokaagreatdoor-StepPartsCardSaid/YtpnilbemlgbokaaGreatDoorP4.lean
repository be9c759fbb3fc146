/- A part of the proof of a law of the step table. -/
import Derived.Test.YtpnilbemlgbokaaGreatDoorS8
import Derived.Test.YtpnilbemlgbokaaGreatDoorSL4
set_option linter.all false
/- THE PLAIN LAW of StepParts: what f4 computes is true. -/
namespace Go.V
open Go.Proofs

theorem wr {x : Int} (h1 : -9223372036854775808 ≤ x) (h2 : x ≤ 9223372036854775807) : IntKind.i64.wrap x = x := by
  unfold IntKind.wrap
  simp only [IntKind.bits, IntKind.signed]
  simp
  split <;> omega

theorem floor_eq {n p k : Int} (hp : 0 < p) (h1 : k * p ≤ n) (h2 : n < k * p + p) : n / p = k := by
  have a := (Int.le_ediv_iff_mul_le hp).2 h1
  have b : n / p < k + 1 := (Int.ediv_lt_iff_lt_mul hp).2 (by rw [Int.add_mul, Int.one_mul]; exact h2)
  omega

/-- The truncated quotient: its product and its rest. -/
theorem tq (n p : Int) (hp : 0 < p) : ∃ m, n = n.tdiv p * p + m ∧ -p < m ∧ m < p ∧ (0 ≤ n → 0 ≤ m) ∧ (n < 0 → m ≤ 0) := by
  refine ⟨n.tmod p, ?_, ?_, Int.tmod_lt_of_pos n hp, fun h => Int.tmod_nonneg p h, fun h => ?_⟩
  · have := Int.tdiv_mul_add_tmod n p; omega
  · have h := Int.tmod_lt_of_pos (-n) hp
    rw [Int.neg_tmod] at h; omega
  · have := Int.tmod_nonneg (a := -n) p (by omega)
    rw [Int.neg_tmod] at this; omega

theorem tq_small {n p : Int} (hp : 0 < p) {B : Int} (h1 : -B ≤ n) (h2 : n ≤ B) : -B ≤ n.tdiv p ∧ n.tdiv p ≤ B := by
  have := Int.natAbs_tdiv_le_natAbs n p
  omega

theorem down_at (N : Nat) (n p : Int) (hp : 0 < p) (hp2 : p ≤ 1000) (h1 : -1000000 ≤ n) (h2 : n ≤ 1000000) : F127 N ((p, ()), (n, ())) = .ret (n / p) := by
  obtain ⟨m, e, a, b, c, d⟩ := tq n p hp
  obtain ⟨s, t⟩ := tq_small hp h1 h2
  have hne : (p != 0) = true := by simp; omega
  unfold F127
  simp (disch := omega) only [wr, hne, cond_true]
  by_cases hlt : n.tdiv p * p > n
  · simp only [hlt, decide_true]
    congr 1
    refine (floor_eq hp ?_ ?_).symm <;> rw [Int.sub_mul, Int.one_mul] <;> omega
  · simp only [hlt, decide_false]
    congr 1
    exact (floor_eq hp (by omega) (by omega)).symm

theorem fl (n p : Int) (hp : 0 < p) : ∃ R, n = n / p * p + R ∧ 0 ≤ R ∧ R < p := 
  ⟨n % p, (Int.ediv_mul_add_emod n p).symm, Int.emod_nonneg n (by omega), Int.emod_lt_of_pos n hp⟩

/-- The rounding by the rule, off the floor k and the rest R. -/
noncomputable def rnd (k R p r : Int) : Int :=
  if r = 2 then (if 0 < R then k + 1 else k)
  else if r = 3 then (if p ≤ 2 * R then k + 1 else k)
  else if r = 4 then (if p < 2 * R then k + 1 else if 2 * R = p ∧ k.tmod 2 ≠ 0 then k + 1 else k)
  else k

theorem rnd3 (k R p : Int) : rnd k R p 3 = if p ≤ 2 * R then k + 1 else k := rfl
theorem rnd4 (k R p : Int) : rnd k R p 4 = if p < 2 * R then k + 1 else if 2 * R = p ∧ k.tmod 2 ≠ 0 then k + 1 else k := rfl

theorem par (k : Int) : k.tmod 2 = 0 ↔ k % 2 = 0 := by rw [← Int.dvd_iff_tmod_eq_zero, ← Int.dvd_iff_emod_eq_zero]

theorem fl_small {n p : Int} (hp : 0 < p) {B : Int} (h1 : -B ≤ n) (h2 : n ≤ B) : -B - 1 ≤ n / p ∧ n / p ≤ B := by
  have hB : 0 ≤ B := by omega
  constructor
  · refine (Int.le_ediv_iff_mul_le hp).2 ?_
    have : (B + 1) * 1 ≤ (B + 1) * p := Int.mul_le_mul_of_nonneg_left (by omega) (by omega)
    have e : (-B - 1) * p = -((B + 1) * p) := by rw [← Int.neg_mul]; congr 1; omega
    omega
  · have : n / p < B + 1 := by
      refine (Int.ediv_lt_iff_lt_mul hp).2 ?_
      have : (B + 1) * 1 ≤ (B + 1) * p := Int.mul_le_mul_of_nonneg_left (by omega) (by omega)
      omega
    omega


theorem tail (k R p r : Int) (h1 : -9000000 ≤ k) (h2 : k ≤ 9000000) (a : 0 ≤ R) (b : R < p) (c : p ≤ 1000) :
    (match (r == (2 : Int)) with
      | true =>
        match (decide (R > (0 : Int))) with
        | true =>
          .ret (IntKind.i64.wrap (k + (1 : Int)))
        | false =>
          .ret k
      | false =>
        match (r == (3 : Int)) with
        | true =>
          match (decide ((IntKind.i64.wrap ((2 : Int) * R)) ≥ p)) with
          | true =>
            .ret (IntKind.i64.wrap (k + (1 : Int)))
          | false =>
            .ret k
        | false =>
          match (r == (4 : Int)) with
          | true =>
            match (decide ((IntKind.i64.wrap ((2 : Int) * R)) > p)) with
            | true =>
              .ret (IntKind.i64.wrap (k + (1 : Int)))
            | false =>
              match ((IntKind.i64.wrap ((2 : Int) * R)) == p) with
              | true =>
                match ((k.tmod (2 : Int)) != (0 : Int)) with
                | true =>
                  .ret (IntKind.i64.wrap (k + (1 : Int)))
                | false =>
                  .ret k
              | false =>
                .ret k
          | false =>
            .ret k : Out Int) = .ret (rnd k R p r) := by
  simp (disch := omega) only [wr]
  unfold rnd
  by_cases r2 : r = 2
  · subst r2
    by_cases h : 0 < R <;> simp [h]
  have e2 : (r == 2) = false := by simp [r2]
  rw [if_neg r2, e2]
  by_cases r3 : r = 3
  · subst r3
    by_cases h : p ≤ 2 * R <;> simp [h]
  have e3 : (r == 3) = false := by simp [r3]
  rw [if_neg r3]
  simp only [e3]
  by_cases r4 : r = 4
  · subst r4
    by_cases h : p < 2 * R
    · simp [h]
    · by_cases h' : 2 * R = p
      · have e5 : (2 * R == p) = true := by simp [h']
        by_cases h'' : k.tmod 2 = 0
        · have e6 : (k.tmod 2 != 0) = false := by simp [h'']
          simp [h, e5, e6, h'']
        · have e6 : (k.tmod 2 != 0) = true := by simp [h'']
          simp [h, e5, e6, h', h'']
      · have e5 : (2 * R == p) = false := by simp [h']
        simp [h, e5, h']
  have e4 : (r == 4) = false := by simp [r4]
  rw [if_neg r4]
  simp only [e4]

theorem f88_at (N : Nat) (n p r : Int) (hp : 0 < p) (hp2 : p ≤ 1000) (h1 : -1000000 ≤ n) (h2 : n ≤ 1000000) : F88 N (n, (p, (r, ()))) = .ret (rnd (n / p) (n - n / p * p) p r) := by
  obtain ⟨m, e, a, b, c, d⟩ := tq n p hp
  obtain ⟨s, t⟩ := tq_small hp h1 h2
  obtain ⟨R, e', a', b'⟩ := fl n p hp
  obtain ⟨s', t'⟩ := fl_small hp h1 h2
  have hne : (p != 0) = true := by simp; omega
  have key : (if n < n.tdiv p * p then n.tdiv p - 1 else n.tdiv p) = n / p := by
    split
    · refine (floor_eq hp ?_ ?_).symm <;> rw [Int.sub_mul, Int.one_mul] <;> omega
    · exact (floor_eq hp (by omega) (by omega)).symm
  have w1 : IntKind.i64.wrap (n.tdiv p) = n.tdiv p := wr (by omega) (by omega)
  have w2 : IntKind.i64.wrap (n.tdiv p * p) = n.tdiv p * p := wr (by omega) (by omega)
  have w3 : IntKind.i64.wrap (n.tdiv p - 1) = n.tdiv p - 1 := wr (by omega) (by omega)
  have w4 : IntKind.i64.wrap (n / p * p) = n / p * p := wr (by omega) (by omega)
  have w5 : IntKind.i64.wrap (n - n / p * p) = n - n / p * p := wr (by omega) (by omega)
  unfold F88
  simp only [w1, w2, w3, hne, cond_true]
  by_cases hlt : n < n.tdiv p * p
  · rw [if_pos hlt] at key
    simp only [hlt, decide_true, key, w4, w5]
    exact tail (n / p) _ p r (by omega) (by omega) (by omega) (by omega) hp2
  · rw [if_neg hlt] at key
    simp only [hlt, decide_false]
    simp only [key, w4, w5]
    exact tail (n / p) _ p r (by omega) (by omega) (by omega) (by omega) hp2

theorem in_at (N : Nat) (a b c : Int) : F83 N (a, (b, (c, ()))) = .ret (decide (b ≤ a ∧ a ≤ c)) ∧ F86 N (a, (b, (c, ()))) = .ret (decide (b ≤ a ∧ a ≤ c)) ∧ F72 N (a, (b, (c, ()))) = .ret (decide (b ≤ a ∧ a ≤ c)) := by
  unfold F83 F86 F72
  by_cases h : b ≤ a <;> simp [h]

theorem rule_at (N : Nat) (a : Int) : F84 N (a, ()) = .ret (decide (1 ≤ a ∧ a ≤ 4)) ∧ F87 N (a, ()) = .ret (decide (1 ≤ a ∧ a ≤ 4)) ∧ F30 N (a, ()) = .ret (decide (1 ≤ a ∧ a ≤ 4)) := by
  unfold F84 F87 F30
  by_cases h : 1 ≤ a <;> simp [h]

theorem near_eq {n p R : Int} (hp : 0 < p) (e : n = n / p * p + R) (a : 0 ≤ R) (b : R < p) : (2 * n + p) / (2 * p) = if p ≤ 2 * R then n / p + 1 else n / p := by
  have h1 : n / p * (2 * p) = 2 * (n / p * p) := by rw [← Int.mul_assoc, Int.mul_comm (n / p) 2, Int.mul_assoc]
  split
  · refine floor_eq (by omega) ?_ ?_ <;> rw [Int.add_mul, Int.one_mul, h1] <;> omega
  · refine floor_eq (by omega) ?_ ?_ <;> rw [h1] <;> omega

theorem up_eq {n p R : Int} (hp : 0 < p) (e : n = n / p * p + R) (a : 0 ≤ R) (b : R < p) : (-n) / p = if 0 < R then -(n / p) - 1 else -(n / p) := by
  have h1 : -(n / p) * p = -(n / p * p) := Int.neg_mul ..
  split
  · refine floor_eq (by omega) ?_ ?_ <;> rw [Int.sub_mul, Int.one_mul, h1] <;> omega
  · refine floor_eq (by omega) ?_ ?_ <;> rw [h1] <;> omega

theorem f129_at (N : Nat) (n p : Int) (hp : 0 < p) (hp2 : p ≤ 500) (h1 : -400000 ≤ n) (h2 : n ≤ 400000) : F129 N ((p, ()), (n, ())) = .ret (rnd (n / p) (n - n / p * p) p 3) := by
  obtain ⟨R, e, a, b⟩ := fl n p hp
  have w1 : IntKind.i64.wrap (2 * p) = 2 * p := wr (by omega) (by omega)
  have w2 : IntKind.i64.wrap (2 * n) = 2 * n := wr (by omega) (by omega)
  have w3 : IntKind.i64.wrap (2 * n + p) = 2 * n + p := wr (by omega) (by omega)
  have g : n - n / p * p = R := by omega
  unfold F129 f127
  simp only [w1, w2, w3]
  rw [down_at _ _ _ (by omega) (by omega) (by omega) (by omega), near_eq hp e a b, g]
  rfl

theorem f27_at (N : Nat) (n p r : Int) (hp : 0 < p) (hp2 : p ≤ 500) (h1 : -400000 ≤ n) (h2 : n ≤ 400000) (hr : 1 ≤ r) (hr2 : r ≤ 4) : F27 N (n, (p, (r, ()))) = .ret (rnd (n / p) (n - n / p * p) p r, (0, ())) := by
  obtain ⟨R, e, a, b⟩ := fl n p hp
  obtain ⟨s', t'⟩ := fl_small hp h1 h2
  have g : n - n / p * p = R := by omega
  unfold F27 f83 f84
  simp only [(in_at _ _ _ _).1, (rule_at _ _).1]
  have d1 : decide ((-1099511627776 : Int) ≤ n ∧ n ≤ 1099511627776) = true := by simp; omega
  have d2 : decide ((1 : Int) ≤ p ∧ p ≤ 1048576) = true := by simp; omega
  have d3 : decide ((1 : Int) ≤ r ∧ r ≤ 4) = true := by simp; omega
  simp only [d1, d2, d3, Bool.not_true]
  have c0 : (r == 0) = false := by simp; omega
  rw [c0, cond_false]
  have hcase : r = 1 ∨ r = 2 ∨ r = 3 ∨ r = 4 := by omega
  rcases hcase with rfl | rfl | rfl | rfl
  · show (match f127 ((p, ()), (n, ())) with | .ret r_7 => Out.ret (r_7, ((0 : Int), ())) | .pan p_8 => .pan p_8 | .fail => .fail) = _
    unfold f127
    rw [down_at _ _ _ hp (by omega) (by omega) (by omega)]
    rfl
  · show (match f128 ((p, ()), (n, ())) with | .ret r_7 => Out.ret (r_7, ((0 : Int), ())) | .pan p_8 => .pan p_8 | .fail => .fail) = _
    have w1 : IntKind.i64.wrap (0 - n) = -n := by rw [wr (by omega) (by omega)]; omega
    unfold f128 F128 f127
    simp only [w1]
    rw [down_at _ _ _ hp (by omega) (by omega) (by omega), up_eq hp e a b, g]
    unfold rnd
    by_cases h : 0 < R
    · simp only [h, if_true]
      rw [wr (by omega) (by omega)]
      congr 2; omega
    · simp only [h, if_false, if_true]
      rw [wr (by omega) (by omega)]
      congr 2; omega
  · show (match f129 ((p, ()), (n, ())) with | .ret r_7 => Out.ret (r_7, ((0 : Int), ())) | .pan p_8 => .pan p_8 | .fail => .fail) = _
    unfold f129
    rw [f129_at _ _ _ hp hp2 h1 h2]
  · show (match f130 ((p, ()), (n, ())) with | .ret r_7 => Out.ret (r_7, ((0 : Int), ())) | .pan p_8 => .pan p_8 | .fail => .fail) = _
    have w1 : IntKind.i64.wrap (2 * p) = 2 * p := wr (by omega) (by omega)
    have w2 : IntKind.i64.wrap (2 * n) = 2 * n := wr (by omega) (by omega)
    have w3 : IntKind.i64.wrap (2 * n + p) = 2 * n + p := wr (by omega) (by omega)
    have h1 : n / p * (2 * p) = 2 * (n / p * p) := by rw [← Int.mul_assoc, Int.mul_comm (n / p) 2, Int.mul_assoc]
    have m1 : 2 * p * (n / p) = 2 * (n / p * p) := by rw [Int.mul_comm, h1]
    have m2 : 2 * p * (n / p + 1) = 2 * (n / p * p) + 2 * p := by rw [Int.mul_add, Int.mul_one, m1]
    unfold f130 F130 f129
    simp only []
    rw [f129_at _ _ _ hp hp2 (by omega) (by omega), g]
    rw [rnd3, rnd4]
    simp only [w1, w2, w3]
    by_cases q1 : p ≤ 2 * R
    · simp only [q1, if_true]
      simp only [m2]
      rw [wr (x := 2 * (n / p * p) + 2 * p) (by omega) (by omega)]
      by_cases q2 : p < 2 * R
      · have d4 : (2 * n + p == 2 * (n / p * p) + 2 * p) = false := by simp; omega
        simp only [d4, q2]
        simp
      · have q3 : 2 * R = p := by omega
        have d4 : (2 * n + p == 2 * (n / p * p) + 2 * p) = true := by simp; omega
        have w6 : IntKind.i64.wrap (n / p + 1 - 1) = n / p := by rw [wr (by omega) (by omega)]; omega
        simp only [d4, q2, w6]
        by_cases q4 : (n / p).tmod 2 = 0
        · have d5 : ((n / p + 1).tmod 2 != 0) = true := by
            rw [par] at q4
            simp only [bne_iff_ne, ne_eq]
            rw [par]; omega
          simp [d5, q4]
        · have d5 : ((n / p + 1).tmod 2 != 0) = false := by
            rw [par] at q4
            have : (n / p + 1).tmod 2 = 0 := (par _).2 (by omega)
            rw [this]; rfl
          simp [d5, q3, q4]
    · simp only [q1, if_false]
      have q2 : ¬ p < 2 * R := by omega
      have q3 : ¬ 2 * R = p := by omega
      simp only [m1]
      rw [wr (x := 2 * (n / p * p)) (by omega) (by omega)]
      have d4 : (2 * n + p == 2 * (n / p * p)) = false := by simp; omega
      simp only [d4]
      simp [q1, q2, q3]

theorem fuel_big : 1000000 ≤ fuel := by unfold fuel; decide

theorem loops (N d p r : Int) (M : Nat) (hd : -19998 ≤ d) (hd2 : d ≤ 19998) (hp : 1 ≤ p) (hp2 : p ≤ 13) (hr : 1 ≤ r) (hr2 : r ≤ 4) :
    ∀ (k j : Nat) (t : Int) (out : List Int), 0 ≤ t → t + k = p + 1 → out.length + k ≤ 100 →
      ∃ L, L28_0 M (k + 1 + j) (d, (p, (r, ()))) out t = .ret (L, (0, ())) ∧ L32_0 M (k + 1 + j) (d, (p, (r, ()))) out t = .ret L ∧ L.length ≤ 100 := by
  intro k
  induction k with
  | zero =>
    intro j t out h1 h2 h3
    have w1 : IntKind.i64.wrap (p + 1) = p + 1 := wr (by omega) (by omega)
    have e : 0 + 1 + j = j + 1 := by omega
    rw [e, L28_0_succ, L32_0_succ]
    simp only [w1]
    have d1 : decide (t < p + 1) = false := by simp; omega
    have d2 : decide (t ≤ p) = false := by simp; omega
    simp only [d1, d2]
    exact ⟨out, rfl, rfl, by omega⟩
  | succ k ih =>
    intro j t out h1 h2 h3
    have w1 : IntKind.i64.wrap (p + 1) = p + 1 := wr (by omega) (by omega)
    have w2 : IntKind.i64.wrap (t + 1) = t + 1 := wr (by omega) (by omega)
    have b1 : d * t ≤ 19998 * 13 := by
      have := Int.mul_le_mul_of_nonneg_right hd2 h1
      omega
    have b2 : -(19998 * 13) ≤ d * t := by
      have := Int.mul_le_mul_of_nonneg_right hd h1
      omega
    have w3 : IntKind.i64.wrap (d * t) = d * t := wr (by omega) (by omega)
    have e : k + 1 + 1 + j = (k + 1 + j) + 1 := by omega
    rw [e, L28_0_succ, L32_0_succ]
    simp only [w1, w2, w3]
    have d1 : decide (t < p + 1) = true := by simp; omega
    have d2 : decide (t ≤ p) = true := by simp; omega
    unfold f27 f88
    rw [f27_at _ _ _ _ (by omega) (by omega) (by omega) (by omega) hr hr2, f88_at _ _ _ _ (by omega) (by omega) (by omega) (by omega)]
    generalize rnd (d * t / p) (d * t - d * t / p * p) p r = q
    have d3 : fits out [q] = true := by unfold fits; simp; omega
    have d4 : ((0 : Int) != 0) = false := rfl
    simp only [d1, d2, d3, d4, cond_true]
    exact ih j (t + 1) (out ++ [q]) (by omega) (by omega) (by simp; omega)

theorem same_at (M : Nat) (L : List Int) (hL : L.length ≤ 1000) : ∀ (k j : Nat) (t : Int), 0 ≤ t → t + k = L.length → L31_0 M (k + 1 + j) (L, (L, ())) t = .ret true := by
  intro k
  induction k with
  | zero =>
    intro j t h1 h2
    have e : 0 + 1 + j = j + 1 := by omega
    rw [e, L31_0_succ]
    have d1 : decide (t < lenI L) = false := by unfold lenI; simp; omega
    simp only [d1]
  | succ k ih =>
    intro j t h1 h2
    have e : k + 1 + 1 + j = (k + 1 + j) + 1 := by omega
    rw [e, L31_0_succ]
    have d1 : decide (t < lenI L) = true := by unfold lenI; simp; omega
    have d2 : inb t L.length = true := by unfold inb; simp; omega
    have d3 : (List.getD L t.toNat (0 : Int) != List.getD L t.toNat (0 : Int)) = false := by simp
    have w2 : IntKind.i64.wrap (t + 1) = t + 1 := wr (by omega) (by omega)
    simp only [d1, d2, d3, w2, cond_true]
    exact ih j (t + 1) (by omega) (by omega)

theorem f31_same (L : List Int) (hL : L.length ≤ 1000) : f31 (L, (L, ())) = .ret true := by
  unfold f31 F31
  have d3 : (lenI L != lenI L) = false := by simp
  simp only [d3]
  have hf := fuel_big
  obtain ⟨j, hj⟩ : ∃ j, fuel = L.length + 1 + j := ⟨fuel - (L.length + 1), by omega⟩
  have := same_at fuel L hL L.length j 0 (by omega) (by omega)
  rwa [← hj] at this

theorem parts_same (d p r : Int) (hd : -19998 ≤ d) (hd2 : d ≤ 19998) (hp : 1 ≤ p) (hp2 : p ≤ 13) (hr : 1 ≤ r) (hr2 : r ≤ 4) :
    ∃ L, f28 (d, (p, (r, ()))) = .ret (L, (0, ())) ∧ f32 (d, (p, (r, ()))) = .ret L ∧ L.length ≤ 100 := by
  have hf := fuel_big
  obtain ⟨j, hj⟩ : ∃ j, fuel = (p + 1).toNat + 1 + j := ⟨fuel - ((p + 1).toNat + 1), by omega⟩
  obtain ⟨L, h1, h2, h3⟩ := loops 0 d p r fuel hd hd2 hp hp2 hr hr2 (p + 1).toNat j 0 [] (by omega) (by omega) (by simp; omega)
  rw [← hj] at h1 h2
  refine ⟨L, ?_, ?_, h3⟩
  · unfold f28 F28 f86 f87
    simp only [(in_at _ _ _ _).2.1, (rule_at _ _).2.1]
    have d1 : decide ((-19998 : Int) ≤ d ∧ d ≤ 19998) = true := by simp; omega
    have d2 : decide ((1 : Int) ≤ p ∧ p ≤ 13) = true := by simp; omega
    have d3 : decide ((1 : Int) ≤ r ∧ r ≤ 4) = true := by simp; omega
    simp only [d1, d2, d3, Bool.not_true]
    exact h1
  · unfold f32 F32
    exact h2

theorem bad_parts (d p r : Int) (h : ¬ ((-19998 ≤ d ∧ d ≤ 19998) ∧ (1 ≤ p ∧ p ≤ 13) ∧ (1 ≤ r ∧ r ≤ 4))) : f28 (d, (p, (r, ()))) = .ret ([], (2, ())) := by
  unfold f28 F28 f86 f87
  simp only [(in_at _ _ _ _).2.1, (rule_at _ _).2.1]
  by_cases h1 : (-19998 ≤ d ∧ d ≤ 19998)
  · have d1 : decide ((-19998 : Int) ≤ d ∧ d ≤ 19998) = true := by simp; omega
    simp only [d1, Bool.not_true]
    by_cases h2 : (1 ≤ p ∧ p ≤ 13)
    · have d2 : decide ((1 : Int) ≤ p ∧ p ≤ 13) = true := by simp; omega
      have d3 : decide ((1 : Int) ≤ r ∧ r ≤ 4) = false := by simp; omega
      simp only [d2, d3, Bool.not_true, Bool.not_false]
    · have d2 : decide ((1 : Int) ≤ p ∧ p ≤ 13) = false := by simp; omega
      simp only [d2, Bool.not_false]
  · have d1 : decide ((-19998 : Int) ≤ d ∧ d ≤ 19998) = false := by simp; omega
    simp only [d1, Bool.not_false]

theorem f29_at (d p : Int) : f29 (d, (p, ())) = .ret (decide ((-19998 ≤ d ∧ d ≤ 19998) ∧ (1 ≤ p ∧ p ≤ 13))) := by
  unfold f29 F29 f72
  simp only [(in_at _ _ _ _).2.2]
  by_cases h1 : (-19998 ≤ d ∧ d ≤ 19998)
  · have d1 : decide ((-19998 : Int) ≤ d ∧ d ≤ 19998) = true := by simp; omega
    simp only [d1]
    congr 1
    simp [h1]
  · have d1 : decide ((-19998 : Int) ≤ d ∧ d ≤ 19998) = false := by simp; omega
    simp only [d1, h1, false_and, decide_false]

theorem law4 (d p r : Int) : f4 (d, (p, (r, ()))) = .ret true := by
  unfold f4 F4
  simp only [f28v_eq, f29v_eq, f30v_eq, f31v_eq, f32v_eq, known_true, f29_at]
  have h30 : f30 (r, ()) = .ret (decide (1 ≤ r ∧ r ≤ 4)) := (rule_at _ _).2.2
  rw [h30]
  by_cases h : (-19998 ≤ d ∧ d ≤ 19998) ∧ (1 ≤ p ∧ p ≤ 13)
  · simp only [h, decide_true, Bool.not_true, and_self]
    by_cases hr : 1 ≤ r ∧ r ≤ 4
    · simp only [hr, decide_true, Bool.not_true, and_self]
      obtain ⟨L, h1, h2, h3⟩ := parts_same d p r h.1.1 h.1.2 h.2.1 h.2.2 hr.1 hr.2
      rw [h1, h2]
      simp only [f31_same L (by omega)]
      rfl
    · simp only [hr, decide_false, Bool.not_false]
      rw [bad_parts d p r (by omega)]
      rfl
  · simp only [h, decide_false, Bool.not_false]
    rw [bad_parts d p r (by omega)]
    rfl
#print axioms law4
end Go.V
