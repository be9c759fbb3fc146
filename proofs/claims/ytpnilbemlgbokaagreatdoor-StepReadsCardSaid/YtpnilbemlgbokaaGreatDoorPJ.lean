/- A part of the proof of a law of the step table. -/
import Derived.Test.YtpnilbemlgbokaaGreatDoorPI
set_option linter.all false
namespace Go.V
open Go.Proofs
theorem wr8 {x : Int} (h1 : 0 ≤ x) (h2 : x ≤ 255) : IntKind.u8.wrap x = x := by
  unfold IntKind.wrap
  simp only [IntKind.bits, IntKind.signed]
  simp
  omega
theorem dig_any (w : List UInt8) (hw : w.length ≤ 4) (n0 : Int) : ∀ (m f : Nat) (n : Int) (i : Int), m < f → 0 ≤ i → i + m = w.length → 0 ≤ n → n < B9 i.toNat →
    (∃ n' b, L157_1 fuel f (w, (4, ())) n i = .ret (n', (b, ())) ∧ (b = true → 0 ≤ n' ∧ n' ≤ 9999)) := by
  intro m
  induction m with
  | zero =>
    intro f n i hf hi he hn hb
    obtain ⟨f, rfl⟩ := succ_of hf
    have hn9 : n ≤ 9999 := by unfold B9 at hb; (repeat' split at hb) <;> omega
    have w1 : IntKind.i64.wrap (1 * n) = n := by rw [wr (by omega) (by omega)]; omega
    rw [L157_1_succ]; try delta lenI
    simp only [dF (show ¬ i < (w.length : Int) by omega), w1, f156_at n (by omega) (by omega)]
    exact ⟨n, _, rfl, fun _ => ⟨hn, hn9⟩⟩
  | succ m ih =>
    intro f n i hf hi he hn hb
    obtain ⟨f, rfl⟩ := succ_of hf
    have hi2 : i < w.length := by omega
    have hn3 : n ≤ 999 := by unfold B9 at hb; (repeat' split at hb) <;> omega
    rw [L157_1_succ]; try delta lenI
    by_cases c1 : byteAt w i < 48
    · simp only [dT hi2, inbT hi hi2, cond_true, dT c1]
      exact ⟨_, _, rfl, fun h => by cases h⟩
    by_cases c2 : byteAt w i > 57
    · simp only [dT hi2, inbT hi hi2, cond_true, dF c1, dT c2]
      exact ⟨_, _, rfl, fun h => by cases h⟩
    have w8 : IntKind.u8.wrap (byteAt w i - 48) = byteAt w i - 48 := wr8 (by omega) (by omega)
    simp only [dT hi2, inbT hi hi2, cond_true, dF c1, dF c2, w8, wr (show -9223372036854775808 ≤ byteAt w i - 48 by omega) (show byteAt w i - 48 ≤ 9223372036854775807 by omega), wr (show -9223372036854775808 ≤ 10 * n by omega) (show 10 * n ≤ 9223372036854775807 by omega), wr (show -9223372036854775808 ≤ 10 * n + (byteAt w i - 48) by omega) (show 10 * n + (byteAt w i - 48) ≤ 9223372036854775807 by omega), wr (show -9223372036854775808 ≤ i + 1 by omega) (show i + 1 ≤ 9223372036854775807 by omega)]
    refine ih f _ (i + 1) (by omega) (by omega) (by omega) (by omega) ?_
    have e : (i + 1).toNat = i.toNat + 1 := by omega
    rw [e]
    unfold B9 at hb ⊢
    (repeat' split at hb) <;> (repeat' split) <;> omega
theorem dig_neg (w : List UInt8) (v : List UInt8) (hv : cut w (1 : Int) (w.length : Int) = v) (hw : v.length ≤ 4) : ∀ (m f : Nat) (n : Int) (i : Int), m < f → 0 ≤ i → i + m = v.length → 0 ≤ n → n < B9 i.toNat →
    (∃ n' b, L157_0 fuel f (w, (4, ())) n i = .ret (n', (b, ())) ∧ (b = true → -9999 ≤ n' ∧ n' ≤ 0)) := by
  intro m
  induction m with
  | zero =>
    intro f n i hf hi he hn hb
    obtain ⟨f, rfl⟩ := succ_of hf
    have hn9 : n ≤ 9999 := by unfold B9 at hb; (repeat' split at hb) <;> omega
    have w1 : IntKind.i64.wrap (-1 * n) = -n := by rw [wr (by omega) (by omega)]; omega
    rw [L157_0_succ]; try delta lenI
    simp only [hv, dF (show ¬ i < (v.length : Int) by omega), w1, f156_at (-n) (by omega) (by omega)]
    exact ⟨-n, _, rfl, fun _ => ⟨by omega, by omega⟩⟩
  | succ m ih =>
    intro f n i hf hi he hn hb
    obtain ⟨f, rfl⟩ := succ_of hf
    have hi2 : i < v.length := by omega
    have hn3 : n ≤ 999 := by unfold B9 at hb; (repeat' split at hb) <;> omega
    rw [L157_0_succ]; try delta lenI
    by_cases c1 : byteAt v i < 48
    · simp only [hv, dT hi2, inbT hi hi2, cond_true, dT c1]
      exact ⟨_, _, rfl, fun h => by cases h⟩
    by_cases c2 : byteAt v i > 57
    · simp only [hv, dT hi2, inbT hi hi2, cond_true, dF c1, dT c2]
      exact ⟨_, _, rfl, fun h => by cases h⟩
    have w8 : IntKind.u8.wrap (byteAt v i - 48) = byteAt v i - 48 := wr8 (by omega) (by omega)
    simp only [hv, dT hi2, inbT hi hi2, cond_true, dF c1, dF c2, w8, wr (show -9223372036854775808 ≤ byteAt v i - 48 by omega) (show byteAt v i - 48 ≤ 9223372036854775807 by omega), wr (show -9223372036854775808 ≤ 10 * n by omega) (show 10 * n ≤ 9223372036854775807 by omega), wr (show -9223372036854775808 ≤ 10 * n + (byteAt v i - 48) by omega) (show 10 * n + (byteAt v i - 48) ≤ 9223372036854775807 by omega), wr (show -9223372036854775808 ≤ i + 1 by omega) (show i + 1 ≤ 9223372036854775807 by omega)]
    refine ih f _ (i + 1) (by omega) (by omega) (by omega) (by omega) ?_
    have e : (i + 1).toNat = i.toNat + 1 := by omega
    rw [e]
    unfold B9 at hb ⊢
    (repeat' split at hb) <;> (repeat' split) <;> omega
theorem cut_tail (b : UInt8) (r : List UInt8) : cut (b :: r) (1 : Int) ((b :: r).length : Int) = r := by
  unfold cut; simp
theorem num_any (w : List UInt8) : ∃ n b, f157 (w, (4, ())) = .ret (n, (b, ())) ∧ (b = true → -9999 ≤ n ∧ n ≤ 9999) := by
  have hfb := fuel_big
  have nn : ∃ n b, (match (decide ((w.length : Int) < 1)) with
        | true => (.ret ((0 : Int), (false, ())) : Out (Int × (Bool × Unit)))
        | false => match (decide ((w.length : Int) > 4)) with
          | true => .ret ((0 : Int), (false, ()))
          | false => L157_1 fuel fuel (w, (4, ())) 0 0) = .ret (n, (b, ())) ∧ (b = true → -9999 ≤ n ∧ n ≤ 9999) := by
    by_cases c1 : (w.length : Int) < 1
    · rw [dT c1]; exact ⟨_, _, rfl, fun h => by cases h⟩
    by_cases c2 : (w.length : Int) > 4
    · rw [dF c1, dT c2]; exact ⟨_, _, rfl, fun h => by cases h⟩
    rw [dF c1, dF c2]
    obtain ⟨n, b, e, h⟩ := dig_any w (by omega) 0 w.length fuel 0 0 (by omega) (by omega) (by omega) (by omega) (by unfold B9; simp)
    exact ⟨n, b, e, fun hb => by have := h hb; omega⟩
  unfold f157 F157; try delta lenI
  cases w with
  | nil =>
    exact ⟨0, false, rfl, fun h => by cases h⟩
  | cons a r =>
    have c0 : ((a :: r).length : Int) > 0 := by rw [List.length_cons]; omega
    have i0 : inb (0 : Int) (a :: r).length = true := inbT (by omega) (by rw [List.length_cons]; omega)
    have k0 : cutOk (1 : Int) ((a :: r).length : Int) ((a :: r).length : Int) = true := by unfold cutOk; simp; omega
    have hc := cut_tail a r
    cases h45 : (byteAt (a :: r) (0 : Int) == 45) with
    | true =>
      simp only [dT c0, i0, cond_true, h45, k0, hc]
      by_cases c1 : (r.length : Int) < 1
      · simp only [dT c1]; exact ⟨_, _, rfl, fun h => by cases h⟩
      by_cases c2 : (r.length : Int) > 4
      · simp only [dF c1, dT c2]; exact ⟨_, _, rfl, fun h => by cases h⟩
      simp only [dF c1, dF c2]
      obtain ⟨n, b, e, h⟩ := dig_neg (a :: r) r hc (by omega) r.length fuel 0 0 (by omega) (by omega) (by omega) (by omega) (by unfold B9; simp)
      exact ⟨n, b, e, fun hb => by have := h hb; omega⟩
    | false =>
      simp only [dT c0, i0, cond_true, h45]
      obtain ⟨n, b, e, h⟩ := nn
      refine ⟨n, b, ?_, h⟩
      rw [← e]
      cases decide (((a :: r).length : Int) < 1) <;> cases decide (((a :: r).length : Int) > 4) <;> rfl
theorem byte_mem {w : List UInt8} {i : Int} (h1 : 0 ≤ i) (h2 : i < w.length) : List.getD w i.toNat 0 ∈ w := by
  have h3 : i.toNat < w.length := by omega
  rw [List.getD_eq_getElem?_getD, List.getElem?_eq_getElem h3]
  exact List.getElem_mem h3
theorem num_at (n : Int) (h1 : -9999 ≤ n) (h2 : n ≤ 9999) : f157 (Lib.itoa n, (4, ())) = .ret (n, (true, ())) := by
  have hfb := fuel_big
  by_cases c : 0 ≤ n
  · obtain ⟨q1, q2, q3⟩ := dec_digits n.toNat n.toNat (Nat.le_refl _)
    have e2 : Lib.itoa n = Lib.decDigits n.toNat := by unfold Lib.itoa; rw [if_neg (by omega)]
    have hl : (Lib.decDigits n.toNat).length ≤ 4 := dec_len 3 n.toNat (by omega)
    have e156 := f156_at n (by omega) (by omega)
    rw [e2] at e156 ⊢
    generalize Lib.decDigits n.toNat = w at *
    have hpos := List.length_pos_iff.2 q3
    have key : ∀ (m f : Nat) (k i : Int), m < f → 0 ≤ i → i + m = w.length → 0 ≤ k → fd k (w.drop i.toNat) = n.toNat → L157_1 fuel f (w, (4, ())) k i = .ret (n, (true, ())) := by
      intro m
      induction m with
      | zero =>
        intro f k i hf hi he hk hv
        obtain ⟨f, rfl⟩ := succ_of hf
        have ed : w.drop i.toNat = [] := List.drop_eq_nil_of_le (by omega)
        rw [ed] at hv
        have hv' : k = n.toNat := hv
        have hkn : k = n := by omega
        subst hkn
        have w1 : IntKind.i64.wrap (1 * k) = k := by rw [wr (by omega) (by omega)]; omega
        rw [L157_1_succ]; try delta lenI
        simp only [dF (show ¬ i < (w.length : Int) by omega), w1, e156, beq_self_eq_true]
      | succ m ih =>
        intro f k i hf hi he hk hv
        obtain ⟨f, rfl⟩ := succ_of hf
        have hi2 : i < w.length := by omega
        have hb := q1 _ (byte_mem hi hi2)
        have eb := byteAt_eq w hi hi2
        rw [drop_byte hi hi2] at hv
        have hv' : fd (10 * k + (byteAt w i - 48)) (w.drop (i + 1).toNat) = n.toNat := by rw [eb]; exact hv
        have hbd := fd_bd (w.drop (i + 1).toNat) (10 * k + (byteAt w i - 48)) (fun b hb => q1 b (List.mem_of_mem_drop hb)) (by omega)
        have w8 : IntKind.u8.wrap (byteAt w i - 48) = byteAt w i - 48 := wr8 (by omega) (by omega)
        rw [L157_1_succ]; try delta lenI
        simp only [dT hi2, inbT hi hi2, cond_true, dF (show ¬ byteAt w i < 48 by omega), dF (show ¬ byteAt w i > 57 by omega), w8, wr (show -9223372036854775808 ≤ byteAt w i - 48 by omega) (show byteAt w i - 48 ≤ 9223372036854775807 by omega), wr (show -9223372036854775808 ≤ 10 * k by omega) (show 10 * k ≤ 9223372036854775807 by omega), wr (show -9223372036854775808 ≤ 10 * k + (byteAt w i - 48) by omega) (show 10 * k + (byteAt w i - 48) ≤ 9223372036854775807 by omega), wr (show -9223372036854775808 ≤ i + 1 by omega) (show i + 1 ≤ 9223372036854775807 by omega)]
        exact ih f _ (i + 1) (by omega) (by omega) (by omega) (by omega) hv'
    have h45 : (byteAt w (0 : Int) == 45) = false := by
      have := q1 _ (byte_mem (w := w) (show (0 : Int) ≤ 0 by omega) (by omega))
      have eb := byteAt_eq w (show (0 : Int) ≤ 0 by omega) (by omega)
      exact eF (by rw [eb]; omega)
    unfold f157 F157; try delta lenI
    simp only [dT (show (w.length : Int) > 0 by omega), inbT (show (0 : Int) ≤ 0 by omega) (show (0 : Int) < w.length by omega), cond_true, h45, dF (show ¬ (w.length : Int) < 1 by omega), dF (show ¬ (w.length : Int) > 4 by omega)]
    exact key w.length fuel 0 0 (by omega) (by omega) (by omega) (by omega) (by simpa using q2)
  · obtain ⟨q1, q2, q3⟩ := dec_digits n.natAbs n.natAbs (Nat.le_refl _)
    have e2 : Lib.itoa n = 45 :: Lib.decDigits n.natAbs := by unfold Lib.itoa; rw [if_pos (by omega)]
    have hl : (Lib.decDigits n.natAbs).length ≤ 4 := dec_len 3 n.natAbs (by omega)
    have e156 := f156_at n (by omega) (by omega)
    rw [e2] at e156 ⊢
    generalize Lib.decDigits n.natAbs = w at *
    have hpos := List.length_pos_iff.2 q3
    have hc := cut_tail 45 w
    have key : ∀ (m f : Nat) (k i : Int), m < f → 0 ≤ i → i + m = w.length → 0 ≤ k → fd k (w.drop i.toNat) = n.natAbs → L157_0 fuel f (45 :: w, (4, ())) k i = .ret (n, (true, ())) := by
      intro m
      induction m with
      | zero =>
        intro f k i hf hi he hk hv
        obtain ⟨f, rfl⟩ := succ_of hf
        have ed : w.drop i.toNat = [] := List.drop_eq_nil_of_le (by omega)
        rw [ed] at hv
        have hv' : k = n.natAbs := hv
        have w1 : IntKind.i64.wrap (-1 * k) = n := by rw [wr (by omega) (by omega)]; omega
        rw [L157_0_succ]; try delta lenI
        simp only [hc, dF (show ¬ i < (w.length : Int) by omega), w1, e156, beq_self_eq_true]
      | succ m ih =>
        intro f k i hf hi he hk hv
        obtain ⟨f, rfl⟩ := succ_of hf
        have hi2 : i < w.length := by omega
        have hb := q1 _ (byte_mem hi hi2)
        have eb := byteAt_eq w hi hi2
        rw [drop_byte hi hi2] at hv
        have hv' : fd (10 * k + (byteAt w i - 48)) (w.drop (i + 1).toNat) = n.natAbs := by rw [eb]; exact hv
        have hbd := fd_bd (w.drop (i + 1).toNat) (10 * k + (byteAt w i - 48)) (fun b hb => q1 b (List.mem_of_mem_drop hb)) (by omega)
        have w8 : IntKind.u8.wrap (byteAt w i - 48) = byteAt w i - 48 := wr8 (by omega) (by omega)
        rw [L157_0_succ]; try delta lenI
        simp only [hc, dT hi2, inbT hi hi2, cond_true, dF (show ¬ byteAt w i < 48 by omega), dF (show ¬ byteAt w i > 57 by omega), w8, wr (show -9223372036854775808 ≤ byteAt w i - 48 by omega) (show byteAt w i - 48 ≤ 9223372036854775807 by omega), wr (show -9223372036854775808 ≤ 10 * k by omega) (show 10 * k ≤ 9223372036854775807 by omega), wr (show -9223372036854775808 ≤ 10 * k + (byteAt w i - 48) by omega) (show 10 * k + (byteAt w i - 48) ≤ 9223372036854775807 by omega), wr (show -9223372036854775808 ≤ i + 1 by omega) (show i + 1 ≤ 9223372036854775807 by omega)]
        exact ih f _ (i + 1) (by omega) (by omega) (by omega) (by omega) hv'
    have c0 : ((45 :: w).length : Int) > 0 := by rw [List.length_cons]; omega
    have i0 : inb (0 : Int) (45 :: w).length = true := inbT (by omega) (by rw [List.length_cons]; omega)
    have k0 : cutOk (1 : Int) ((45 :: w).length : Int) ((45 :: w).length : Int) = true := by unfold cutOk; simp; omega
    have h45 : (byteAt (45 :: w) (0 : Int) == 45) = true := rfl
    unfold f157 F157; try delta lenI
    simp only [dT c0, i0, cond_true, h45, k0, hc, dF (show ¬ (w.length : Int) < 1 by omega), dF (show ¬ (w.length : Int) > 4 by omega)]
    exact key w.length fuel 0 0 (by omega) (by omega) (by omega) (by omega) (by simpa using q2)
theorem nums_any (ws : List (List UInt8)) (hw : ws.length ≤ 100000) : ∃ l b, f122 (ws, (4, ())) = .ret (l, (b, ())) ∧ (b = true → l.length = ws.length ∧ ∀ z ∈ l, -9999 ≤ z ∧ z ≤ 9999) := by
  have hfb := fuel_big
  have key : ∀ (m f : Nat) (i : Int) (out : List Int), m < f → 0 ≤ i → i + m = ws.length → (out.length : Int) = i → (∀ z ∈ out, -9999 ≤ z ∧ z ≤ 9999) →
      ∃ l b, L122_0 fuel f (ws, (4, ())) out i = .ret (l, (b, ())) ∧ (b = true → l.length = ws.length ∧ ∀ z ∈ l, -9999 ≤ z ∧ z ≤ 9999) := by
    intro m
    induction m with
    | zero =>
      intro f i out hf hi he hl ho
      obtain ⟨f, rfl⟩ := succ_of hf
      rw [L122_0_succ]; try delta lenI
      simp only [dF (show ¬ i < (ws.length : Int) by omega)]
      exact ⟨out, true, rfl, fun _ => ⟨by omega, ho⟩⟩
    | succ m ih =>
      intro f i out hf hi he hl ho
      obtain ⟨f, rfl⟩ := succ_of hf
      have hi2 : i < ws.length := by omega
      obtain ⟨n, b, e, h⟩ := num_any (List.getD ws i.toNat ([] : List UInt8))
      rw [L122_0_succ]; try delta lenI
      simp only [dT hi2, inbT hi hi2, cond_true, e]
      cases b
      · simp only [Bool.not_false]
        exact ⟨[], false, rfl, fun h => by cases h⟩
      · simp only [Bool.not_true, fitsT (show out.length + [n].length < 1000000 by simp only [List.length_cons, List.length_nil]; omega), cond_true, wr (show -9223372036854775808 ≤ i + 1 by omega) (show i + 1 ≤ 9223372036854775807 by omega)]
        refine ih f (i + 1) _ (by omega) (by omega) (by omega) (by simp; omega) fun z hz => ?_
        rcases List.mem_append.1 hz with hz | hz
        · exact ho z hz
        · rw [List.mem_singleton.1 hz]; exact h rfl
  exact key ws.length fuel 0 [] (by omega) (by omega) (by omega) rfl (fun z hz => by cases hz)
theorem nums_two (a b : Int) (a1 : -9999 ≤ a ∧ a ≤ 9999) (b1 : -9999 ≤ b ∧ b ≤ 9999) : f122 ([Lib.itoa a, Lib.itoa b], (4, ())) = .ret ([a, b], (true, ())) := by
  have hfb := fuel_big
  obtain ⟨j, hj⟩ : ∃ j, fuel = j + 1 + 1 + 1 := ⟨fuel - 3, by omega⟩
  have g0 : List.getD [Lib.itoa a, Lib.itoa b] (0 : Int).toNat ([] : List UInt8) = Lib.itoa a := rfl
  have g1 : List.getD [Lib.itoa a, Lib.itoa b] (1 : Int).toNat ([] : List UInt8) = Lib.itoa b := rfl
  have gl : (([Lib.itoa a, Lib.itoa b] : List (List UInt8)).length : Int) = 2 := rfl
  have i0 : inb (0 : Int) ([Lib.itoa a, Lib.itoa b] : List (List UInt8)).length = true := rfl
  have i1 : inb (1 : Int) ([Lib.itoa a, Lib.itoa b] : List (List UInt8)).length = true := rfl
  have f1 : fits ([] : List Int) [a] = true := rfl
  have f2 : fits (([] : List Int) ++ [a]) [b] = true := rfl
  have key : ∀ N j : Nat, L122_0 N (j + 1 + 1 + 1) ([Lib.itoa a, Lib.itoa b], (4, ())) [] 0 = .ret ([a, b], (true, ())) := by
    intro N j
    rw [L122_0_succ]; try delta lenI
    simp only [gl, dT (show (0 : Int) < 2 by decide), i0, g0, cond_true, num_at a a1.1 a1.2, Bool.not_true, f1, show IntKind.i64.wrap (0 + 1) = 1 from rfl]
    rw [L122_0_succ]; try delta lenI
    simp only [gl, dT (show (1 : Int) < 2 by decide), i1, g1, cond_true, num_at b b1.1 b1.2, Bool.not_true, f2, show IntKind.i64.wrap (1 + 1) = 2 from rfl]
    rw [L122_0_succ]; try delta lenI
    simp only [gl, dF (show ¬ (2 : Int) < 2 by decide)]
    rfl
  unfold f122 F122
  have := key fuel j
  rw [← hj] at this
  exact this
theorem f71_any (s : List UInt8) (hs : s.length ≤ 400) : (∃ x, f71 (s, ()) = .ret (x, (true, ())) ∧ Rb x ∧ s = txt (rowsL x)) ∨ f71 (s, ()) = .ret (([], (0, (0, ()))), (false, ())) := by
  have hfb := fuel_big
  obtain ⟨R1, R2, R3⟩ := split_len s 10
  have es : f121 (s, (10, ())) = .ret (Lib.split s [10]) := f121_at s 10 (by omega)
  unfold f71 F71; try delta lenI
  simp only [es]
  generalize Lib.split s [10] = R at *
  have wl : IntKind.i64.wrap ((R.length : Int) - 2) = (R.length : Int) - 2 := wr (by omega) (by omega)
  have key : ∀ (m f : Nat) (i : Int) (t : List (Int × (Int × Unit))) (r o : Int), m < f → 0 ≤ i → (R.length : Int) - 2 - i ≤ m → (t.length : Int) ≤ i → i ≤ 450 → Rl t → (0 ≤ r ∧ r ≤ 9999) → (0 ≤ o ∧ o ≤ 9999) →
      (∃ x, L71_0 fuel f (s, ()) [] 0 0 t r o R i = .ret (x, (true, ())) ∧ Rb x ∧ s = txt (rowsL x)) ∨ L71_0 fuel f (s, ()) [] 0 0 t r o R i = .ret (([], (0, (0, ()))), (false, ())) := by
    intro m
    have fin : ∀ (f : Nat) (i : Int) (t : List (Int × (Int × Unit))) (r o : Int), ¬ i < (R.length : Int) - 2 → t.length ≤ 900 → Rl t → (0 ≤ r ∧ r ≤ 9999) → (0 ≤ o ∧ o ≤ 9999) →
        (∃ x, L71_0 fuel (f + 1) (s, ()) [] 0 0 t r o R i = .ret (x, (true, ())) ∧ Rb x ∧ s = txt (rowsL x)) ∨ L71_0 fuel (f + 1) (s, ()) [] 0 0 t r o R i = .ret (([], (0, (0, ()))), (false, ())) := by
      intro f i t r o hi hl ht hr ho
      rw [L71_0_succ]; try delta lenI
      by_cases c : (R.length : Int) < 3
      · simp only [wl, dF hi, dT c]
        exact .inr (by trivial)
      · have rb := rb_of hl ht hr ho
        have e69 := f69_at _ (sb_rb rb)
        cases heq : (txt (rowsL (t, (r, (o, ())))) != s) with
        | true =>
          simp only [wl, dF hi, dF c, e69, heq]
          exact .inr (by trivial)
        | false =>
          simp only [wl, dF hi, dF c, e69, heq]
          exact .inl ⟨_, (by trivial), rb, by
            have := bne_eq_false_iff_eq.1 heq
            exact this.symm⟩
    induction m with
    | zero =>
      intro f i t r o hf hi he hl hi9 ht hr ho
      obtain ⟨f, rfl⟩ := succ_of hf
      exact fin f i t r o (by omega) (by omega) ht hr ho
    | succ m ih =>
      intro f i t r o hf hi he hl hi9 ht hr ho
      obtain ⟨f, rfl⟩ := succ_of hf
      by_cases hi2 : i < (R.length : Int) - 2
      rotate_left
      · exact fin f i t r o hi2 (by omega) ht hr ho
      have hi3 : i < R.length := by omega
      have rl := R3 _ (row_in (rows := R) hi hi3)
      have ex : f121 (List.getD R i.toNat ([] : List UInt8), (32, ())) = .ret (Lib.split (List.getD R i.toNat ([] : List UInt8)) [32]) := f121_at _ 32 (by omega)
      obtain ⟨X1, X2, X3⟩ := split_len (List.getD R i.toNat ([] : List UInt8)) 32
      generalize Lib.split (List.getD R i.toNat ([] : List UInt8)) [32] = X at *
      have k0 : cutOk (1 : Int) (X.length : Int) (X.length : Int) = true := by unfold cutOk; simp; omega
      have cl : (cut X (1 : Int) (X.length : Int)).length ≤ 100000 := by unfold cut; simp; omega
      obtain ⟨l, b, e, h⟩ := nums_any (cut X (1 : Int) (X.length : Int)) cl
      have wi : IntKind.i64.wrap (i + 1) = i + 1 := wr (by omega) (by omega)
      rw [L71_0_succ]; try delta lenI
      cases b
      · simp only [wl, dT hi2, inbT hi hi3, cond_true, ex, k0, e, Bool.not_false]
        exact .inr (by trivial)
      by_cases c2 : (l.length : Int) = 2
      rotate_left
      · simp only [wl, dT hi2, inbT hi hi3, cond_true, ex, k0, e, Bool.not_true, nT c2]
        exact .inr (by trivial)
      obtain ⟨_, hz⟩ := h rfl
      have j0 := inbT (show (0 : Int) ≤ 0 by omega) (show (0 : Int) < l.length by omega)
      have j1 := inbT (show (0 : Int) ≤ 1 by omega) (show (1 : Int) < l.length by omega)
      have z0 := hz _ (getD_mem (k := l) (show (0 : Int) ≤ 0 by omega) (by omega))
      have z1 := hz _ (getD_mem (k := l) (show (0 : Int) ≤ 1 by omega) (by omega))
      generalize ha : List.getD l (0 : Int).toNat 0 = a at *
      generalize hb : List.getD l (1 : Int).toNat 0 = b at *
      by_cases c3 : i = 0
      · by_cases c4 : a < 0
        · simp only [wl, dT hi2, inbT hi hi3, cond_true, ex, k0, e, Bool.not_true, nF c2, eT c3, j0, ha, dT c4]
          exact .inr (by trivial)
        · by_cases c5 : b < 0
          · simp only [wl, dT hi2, inbT hi hi3, cond_true, ex, k0, e, Bool.not_true, nF c2, eT c3, j0, ha, dF c4, j1, hb, dT c5]
            exact .inr (by trivial)
          · simp only [wl, dT hi2, inbT hi hi3, cond_true, ex, k0, e, Bool.not_true, nF c2, eT c3, j0, ha, dF c4, j1, hb, dF c5, wi]
            exact ih f (i + 1) t b a (by omega) (by omega) (by omega) (by omega) (by omega) ht (by omega) (by omega)
      · simp only [wl, dT hi2, inbT hi hi3, cond_true, ex, k0, e, Bool.not_true, nF c2, eF c3, j0, ha, j1, hb, fitsT (show t.length + [(a, (b, ()))].length < 1000000 by simp only [List.length_cons, List.length_nil]; omega), wi]
        refine ih f (i + 1) _ r o (by omega) (by omega) (by omega) (by simp; omega) (by omega) (fun z hz => ?_) hr ho
        rcases List.mem_append.1 hz with hz | hz
        · exact ht z hz
        · rw [List.mem_singleton.1 hz]; exact ⟨z0, z1⟩
  exact key R.length fuel 0 [] 0 0 (by omega) (by omega) (by omega) (by simp) (by omega) (fun z hz => by cases hz) (by omega) (by omega)
theorem f71_txt (x : TABX) (h : Rb x) : f71 (txt (rowsL x), ()) = .ret (x, (true, ())) := by
  have hfb := fuel_big
  have sb := sb_rb h
  have tlen : (txt (rowsL x)).length ≤ 100000 ∨ True := .inr trivial
  have tl2 : (txt (rowsL x)).length ≤ 100000 := by
    have fl : (((rowsL x).map (· ++ [10])).flatten).length ≤ 101 * (rowsL x).length := flat_len (rowsL x) (rowsL_rs sb).2
    have rl : (rowsL x).length ≤ 901 := by unfold rowsL; simp; have := h.1; omega
    obtain ⟨_, _, _, l1, l2, l3⟩ := parts (ckO 0 0 (rowsL x))
    unfold txt endT
    simp only [List.length_append, List.length_cons, List.length_nil]
    omega
  obtain ⟨h1, h2, h3, h4⟩ := h
  have es : f121 (txt (rowsL x), (10, ())) = .ret (Lib.split (txt (rowsL x)) [10]) := f121_at _ 10 tl2
  rw [txt_split] at es
  generalize hR : rowsL x ++ [endT (ckO 0 0 (rowsL x)), []] = R at es
  have Rl : (R.length : Int) = x.1.length + 3 := by rw [← hR]; unfold rowsL; simp; omega
  have wl : IntKind.i64.wrap ((R.length : Int) - 2) = x.1.length + 1 := by rw [wr (by omega) (by omega)]; omega
  have R0 : List.getD R (0 : Int).toNat ([] : List UInt8) = rowT [116, 97, 98, 108, 101] x.2.2.1 x.2.1 := by rw [← hR]; rfl
  have Ri : ∀ i : Int, 1 ≤ i → i < (x.1.length : Int) + 1 → List.getD R i.toNat ([] : List UInt8) = vT (sp' x (i - 1)) := by
    intro i i1 i2
    have e : i.toNat = (i - 1).toNat + 1 := by omega
    have h3 : (i - 1).toNat < x.1.length := by omega
    rw [← hR, e]
    unfold rowsL sp'
    show List.getD ((x.1.map vT) ++ _) (i - 1).toNat _ = _
    rw [List.getD_eq_getElem?_getD, List.getElem?_append_left (by rw [List.length_map]; exact h3), List.getElem?_map, List.getElem?_eq_getElem h3, List.getD_eq_getElem?_getD, List.getElem?_eq_getElem h3]
    rfl
  have row : ∀ (w : List UInt8) (a b : Int), (32 : UInt8) ∉ w → w.length ≤ 10 → (-9999 ≤ a ∧ a ≤ 9999) → (-9999 ≤ b ∧ b ≤ 9999) → f121 (rowT w a b, (32, ())) = .ret [w, Lib.itoa a, Lib.itoa b] := by
    intro w a b hw hl ha hb
    have := rowT_len (w := w) (a := a) (b := b) hl (by omega) (by omega)
    have e : f121 (rowT w a b, (32, ())) = .ret (Lib.split (rowT w a b) [32]) := f121_at _ 32 (by omega)
    rw [e, row_split w a b hw]
  have cutw : ∀ (w : List UInt8) (a b : Int), cutOk (1 : Int) (([w, Lib.itoa a, Lib.itoa b] : List (List UInt8)).length : Int) (([w, Lib.itoa a, Lib.itoa b] : List (List UInt8)).length : Int) = true ∧ cut ([w, Lib.itoa a, Lib.itoa b] : List (List UInt8)) (1 : Int) (([w, Lib.itoa a, Lib.itoa b] : List (List UInt8)).length : Int) = [Lib.itoa a, Lib.itoa b] := fun w a b => ⟨rfl, rfl⟩
  have p0 : ∀ a b : Int, List.getD [a, b] (0 : Int).toNat 0 = a ∧ List.getD [a, b] (1 : Int).toNat 0 = b ∧ ((([a, b] : List Int).length : Int) != 2) = false ∧ inb (0 : Int) ([a, b] : List Int).length = true ∧ inb (1 : Int) ([a, b] : List Int).length = true := fun a b => ⟨rfl, rfl, rfl, rfl, rfl⟩
  have key : ∀ (m f : Nat) (i : Int) (t : List (Int × (Int × Unit))), m < f → 1 ≤ i → i + m = (x.1.length : Int) + 1 → t = x.1.take (i - 1).toNat → L71_0 fuel f (txt (rowsL x), ()) [] 0 0 t x.2.1 x.2.2.1 R i = .ret (x, (true, ())) := by
    intro m
    induction m with
    | zero =>
      intro f i t hf hi he ht
      obtain ⟨f, rfl⟩ := succ_of hf
      have et : x.1.take (i - 1).toNat = x.1 := List.take_of_length_le (by omega)
      rw [et] at ht
      subst ht
      have e69 : f69 ((x.1, (x.2.1, (x.2.2.1, ()))), ()) = .ret (txt (rowsL x)) := f69_at x sb
      rw [L71_0_succ]; try delta lenI
      have hne : (txt (rowsL x) != txt (rowsL x)) = false := by simp
      simp only [wl, dF (show ¬ i < (x.1.length : Int) + 1 by omega), dF (show ¬ (R.length : Int) < 3 by omega), e69, hne]
    | succ m ih =>
      intro f i t hf hi he ht
      obtain ⟨f, rfl⟩ := succ_of hf
      obtain ⟨q1, q2⟩ := h4 (i - 1) (by omega) (by omega)
      have er := row [118, 97, 108, 117, 101] (sp' x (i - 1)).1 (sp' x (i - 1)).2.1 (by decide) (by simp) q1 q2
      have tl : t.length ≤ 900 := by rw [ht]; simp; omega
      obtain ⟨k0, hc⟩ := cutw [118, 97, 108, 117, 101] (sp' x (i - 1)).1 (sp' x (i - 1)).2.1
      obtain ⟨g0, g1, g2, g3, g4⟩ := p0 (sp' x (i - 1)).1 (sp' x (i - 1)).2.1
      have eR : List.getD R i.toNat ([] : List UInt8) = rowT [118, 97, 108, 117, 101] (sp' x (i - 1)).1 (sp' x (i - 1)).2.1 := Ri i hi (by omega)
      rw [L71_0_succ]; try delta lenI
      simp only [wl, dT (show i < (x.1.length : Int) + 1 by omega), inbT (show 0 ≤ i by omega) (show i < R.length by omega), cond_true, eR, er, k0, hc, nums_two _ _ q1 q2, Bool.not_true, g2, eF (show i ≠ 0 by omega), g3, g4, g0, g1, fitsT (show t.length + [((sp' x (i - 1)).1, ((sp' x (i - 1)).2.1, ()))].length < 1000000 by simp only [List.length_cons, List.length_nil]; omega), wr (show -9223372036854775808 ≤ i + 1 by omega) (show i + 1 ≤ 9223372036854775807 by omega)]
      refine ih f (i + 1) _ (by omega) (by omega) (by omega) ?_
      have e : i + 1 - 1 = (i - 1) + 1 := by omega
      rw [e, take_one x (by omega) (by omega), ht]
  obtain ⟨k0, hc⟩ := cutw [116, 97, 98, 108, 101] x.2.2.1 x.2.1
  obtain ⟨g0, g1, g2, g3, g4⟩ := p0 x.2.2.1 x.2.1
  have er := row [116, 97, 98, 108, 101] x.2.2.1 x.2.1 (by decide) (by simp) (by omega) (by omega)
  obtain ⟨f, hf⟩ := succ_of (show 0 < fuel by omega)
  unfold f71 F71
  simp only [es]
  have step : L71_0 fuel (f + 1) (txt (rowsL x), ()) [] 0 0 [] 0 0 R 0 = L71_0 fuel f (txt (rowsL x), ()) [] 0 0 [] x.2.1 x.2.2.1 R 1 := by
    rw [L71_0_succ]; try delta lenI
    simp only [wl, dT (show (0 : Int) < (x.1.length : Int) + 1 by omega), inbT (show (0 : Int) ≤ 0 by omega) (show (0 : Int) < R.length by omega), cond_true, R0, er, k0, hc, nums_two x.2.2.1 x.2.1 (by omega) (by omega), Bool.not_true, g2, eT (rfl : (0 : Int) = 0), g3, g4, g0, g1, dF (show ¬ x.2.2.1 < 0 by omega), dF (show ¬ x.2.1 < 0 by omega), show IntKind.i64.wrap (0 + 1) = 1 from rfl]
  have e : L71_0 fuel fuel (txt (rowsL x), ()) [] 0 0 [] 0 0 R 0 = L71_0 fuel (f + 1) (txt (rowsL x), ()) [] 0 0 [] 0 0 R 0 := congrArg (fun z => L71_0 fuel z (txt (rowsL x), ()) [] 0 0 [] 0 0 R 0) hf
  rw [e, step]
  exact key x.1.length f 1 [] (by omega) (by omega) (by omega) rfl
end Go.V
