/- A part of the proof of a law of the step table. -/
import Derived.Test.YtpnilbemlgbokaaGreatDoorS8
import Derived.Test.YtpnilbemlgbokaaGreatDoorSL5
import Derived.Test.YtpnilbemlgbokaaGreatDoorPA
set_option linter.all false
namespace Go.V
open Go.Proofs
theorem figLoopG {α : Type} {L : Nat → List Int → Int → Out α} {g : List Int → α} {n : Int} {F : Int → Int}
    (step : ∀ f out i, 0 ≤ i → i < n → (out.length : Int) = i → L (f + 1) out i = L f (out ++ [F i]) (i + 1))
    (done : ∀ f out, L (f + 1) out n = .ret (g out)) :
    ∀ (m f : Nat) (out : List Int) (i : Int), m < f → 0 ≤ i → i + m = n → Fig out i F → ∃ l, L f out i = .ret (g l) ∧ Fig l n F := by
  intro m
  induction m with
  | zero =>
    intro f out i hf hi he ho
    obtain ⟨f, rfl⟩ := succ_of hf
    obtain rfl : i = n := by omega
    exact ⟨out, done _ _, ho⟩
  | succ m ih =>
    intro f out i hf hi he ho
    obtain ⟨f, rfl⟩ := succ_of hf
    have ho1 := ho.1
    rw [step f out i hi (by omega) ho1]
    refine ih f _ (i + 1) (by omega) (by omega) (by omega) ⟨by simp; omega, fun j j1 j2 => ?_⟩
    rw [getD_snoc _ _ _ (by omega)]
    split
    · next h => congr 1; omega
    · next h => exact ho.2 j j1 (by omega)
theorem f28_fig (d p r : Int) (hd : -19998 ≤ d) (hd2 : d ≤ 19998) (hp : 1 ≤ p) (hp2 : p ≤ 13) (hr : 1 ≤ r) (hr2 : r ≤ 4) :
    ∃ L, f28 (d, (p, (r, ()))) = .ret (L, (0, ())) ∧ Fig L (p + 1) (fun j => rd (d * j) p r) := by
  have hf := fuel_big
  have wp : IntKind.i64.wrap (p + 1) = p + 1 := wr (by omega) (by omega)
  obtain ⟨L, e1, e2⟩ := figLoopG (L := fun f out i => L28_0 fuel f (d, (p, (r, ()))) out i) (g := fun l => (l, ((0 : Int), ()))) (n := p + 1) (F := fun j => rd (d * j) p r)
    (fun f out i h1 h2 h3 => by
      try dsimp only
      rw [L28_0_succ]; try delta lenI
      have b1 := Int.mul_le_mul_of_nonneg_right hd2 h1
      have b2 := Int.mul_le_mul_of_nonneg_right hd h1
      have w3 : IntKind.i64.wrap (d * i) = d * i := wr (by omega) (by omega)
      have e : f27 (d * i, (p, (r, ()))) = .ret (rd (d * i) p r, (0, ())) := by
        unfold f27
        rw [f27_at _ _ _ _ (by omega) (by omega) (by omega) (by omega) hr hr2]
        rfl
      simp only [wp, dT h2, w3, e, nF (rfl : (0 : Int) = 0), fitsT (show out.length + [rd (d * i) p r].length < 1000000 by simp; omega), cond_true, wr (show -9223372036854775808 ≤ i + 1 by omega) (show i + 1 ≤ 9223372036854775807 by omega)])
    (fun f out => by
      try dsimp only
      rw [L28_0_succ]; try delta lenI
      simp only [wp, dF (Int.lt_irrefl _)]) (p + 1).toNat fuel [] 0 (by omega) (by omega) (by omega) ⟨rfl, fun j a b => by omega⟩
  refine ⟨L, ?_, e2⟩
  unfold f28 F28; try delta lenI
  have d1 : decide ((-19998 : Int) ≤ d ∧ d ≤ 19998) = true := dT ⟨hd, hd2⟩
  have d2 : decide ((1 : Int) ≤ p ∧ p ≤ 13) = true := dT ⟨hp, hp2⟩
  have d3 : decide ((1 : Int) ≤ r ∧ r ≤ 4) = true := dT ⟨hr, hr2⟩
  simp only [i86, r87, d1, d2, d3, Bool.not_true]
  exact e1
theorem rd_shift {n p r q : Int} (hp : 0 < p) (hr : r ≠ 4) : rd (q * p + n) p r = q + rd n p r := by
  obtain ⟨R, e, a, b⟩ := fl n p hp
  have e1 : (q * p + n) / p = q + n / p := floor_eq hp (by rw [Int.add_mul]; omega) (by rw [Int.add_mul]; omega)
  have g1 : q * p + n - (q + n / p) * p = R := by rw [Int.add_mul]; omega
  have g2 : n - n / p * p = R := by omega
  unfold rd
  rw [e1, g1, g2]
  unfold rnd
  rw [if_neg hr]
  split
  · split <;> omega
  split
  · split <;> omega
  · rfl
theorem kp_two {n : Int} (h : 2 ≤ n) : Kp [0, n - 1] n := by
  refine ⟨by simp, rfl, rfl, fun j h1 h2 => ?_⟩
  have : j = 1 := by simp at h2; omega
  subst this
  show (0 : Int) < n - 1
  omega
theorem loop5 (x : (List (Int × (Int × Unit))) × (Int × (Int × Unit))) (u L f' : List Int) (row : Int) (hx : 2 ≤ x.1.length ∧ x.1.length ≤ 13) (hu : u.length = x.1.length) (hL : L.length = x.1.length) (hf' : f'.length = x.1.length) (hrow : 0 ≤ row ∧ row < x.1.length)
    (d : Int) (hd : IntKind.i64.wrap (List.getD u ((x.1.length : Int) - 1).toNat 0 - List.getD u (0 : Int).toNat 0) = d)
    (up : 0 ≤ d → ∀ i : Int, 1 ≤ i → i < x.1.length → List.getD L (i - 1).toNat 0 ≤ List.getD L i.toNat 0)
    (dn : d ≤ 0 → ∀ i : Int, 1 ≤ i → i < x.1.length → List.getD L i.toNat 0 ≤ List.getD L (i - 1).toNat 0)
    (fin : x.2.1 ≠ 4 → IntKind.i64.wrap (List.getD f' row.toNat 0 - List.getD u (0 : Int).toNat 0) = List.getD L row.toNat 0) :
    ∀ (m f : Nat) (i : Int), m < f → 1 ≤ i → i + m = x.1.length → L5_0 fuel f (x, (u, (row, ()))) (L, (0, ())) (f', (0, ())) i = .ret true := by
  have wn : IntKind.i64.wrap ((x.1.length : Int) - 1) = (x.1.length : Int) - 1 := wr (by omega) (by omega)
  intro m
  induction m with
  | zero =>
    intro f i hf hi he
    obtain ⟨f, rfl⟩ := succ_of hf
    rw [L5_0_succ]; try delta lenI
    simp only [lenE, wn, dF (show ¬ i ≤ (x.1.length : Int) - 1 by omega), known_true]
    by_cases h4 : x.2.1 = 4
    · simp only [eT h4]
    · simp only [eF h4, inbT (show (0 : Int) ≤ row by omega) (show row < f'.length by omega), inbT (show (0 : Int) ≤ row by omega) (show row < L.length by omega), inbT (show (0 : Int) ≤ 0 by omega) (show (0 : Int) < u.length by omega), cond_true, eT (fin h4)]
  | succ m ih =>
    intro f i hf hi he
    obtain ⟨f, rfl⟩ := succ_of hf
    rw [L5_0_succ]; try delta lenI
    have next := ih f (i + 1) (by omega) (by omega) (by omega)
    simp only [lenE, wn, dT (show i ≤ (x.1.length : Int) - 1 by omega), hd, inbT (show (0 : Int) ≤ i by omega) (show i < L.length by omega), wr (show -9223372036854775808 ≤ i - 1 by omega) (show i - 1 ≤ 9223372036854775807 by omega), inbT (show (0 : Int) ≤ i - 1 by omega) (show i - 1 < L.length by omega), cond_true, wr (show -9223372036854775808 ≤ i + 1 by omega) (show i + 1 ≤ 9223372036854775807 by omega)]
    by_cases h1 : d ≥ 0
    · have q1 := up h1 i hi (by omega)
      simp only [dT h1, dF (show ¬ List.getD L i.toNat 0 < List.getD L (i - 1).toNat 0 by omega)]
      by_cases h2 : d ≤ 0
      · have q2 := dn h2 i hi (by omega)
        simp only [dT h2, dF (show ¬ List.getD L i.toNat 0 > List.getD L (i - 1).toNat 0 by omega)]
        exact next
      · simp only [dF h2]
        exact next
    · have h2 : d ≤ 0 := by omega
      have q2 := dn h2 i hi (by omega)
      simp only [dF h1, dT h2, dF (show ¬ List.getD L i.toNat 0 > List.getD L (i - 1).toNat 0 by omega)]
      exact next
theorem law5 (x : (List (Int × (Int × Unit))) × (Int × (Int × Unit))) (u : List Int) (row : Int) : f5 (x, (u, (row, ()))) = .ret true := by
  have hfb := fuel_big
  unfold f5 F5; try delta lenI
  simp only [f34v_eq, f23v_eq, f35v_eq, f29v_eq, f28v_eq, f25v_eq, known_true, lenE]
  by_cases h1 : (x.1.length : Int) ≤ 16
  rotate_left
  · simp only [dF h1, Bool.not_false]
  by_cases h2 : (u.length : Int) > 16
  · simp only [dT h1, dT h2, Bool.not_true]
  simp only [dT h1, dF h2, Bool.not_true]
  obtain ⟨b, t1, t2, t3⟩ := tab x (by omega)
  cases b
  · simp only [t1, Bool.not_false]
  have ht := t3.1 rfl
  have tl := ht.1
  obtain ⟨b, r1, r2, r3⟩ := tru x u (by omega)
  cases b
  · simp only [t1, r1, Bool.not_true, Bool.not_false]
  have hu := r3.1 rfl
  have hul := hu.1
  have wn : IntKind.i64.wrap ((x.1.length : Int) - 1) = (x.1.length : Int) - 1 := wr (by omega) (by omega)
  have e35 : f35 (x, (row, ())) = .ret (decide (0 ≤ row ∧ row ≤ (x.1.length : Int) - 1)) := by
    unfold f35 F35; try delta lenI
    simp only [i72, lenE, wn]
  by_cases hrow : 0 ≤ row ∧ row ≤ (x.1.length : Int) - 1
  rotate_left
  · simp only [t1, r1, Bool.not_true, e35, dF hrow, Bool.not_false]
  have s0 := tr_small ht hu (show (0 : Int) ≤ 0 by omega) (show (0 : Int) < x.1.length by omega)
  have s1 := tr_small ht hu (show (0 : Int) ≤ (x.1.length : Int) - 1 by omega) (show (x.1.length : Int) - 1 < x.1.length by omega)
  have j1 : inb ((x.1.length : Int) - 1) u.length = true := inbT (by omega) (by omega)
  have j2 : inb 0 u.length = true := inbT (by omega) (by omega)
  obtain ⟨l, b, q1, q2, q3, q4, q5, q6⟩ := all_in ht (kp_two (show 2 ≤ (x.1.length : Int) by omega)) hu
  have g1 := q3.2 row hrow.1 (by omega)
  have hk2 : Kp [0, (x.1.length : Int) - 1] x.1.length := kp_two (show 2 ≤ (x.1.length : Int) by omega)
  have e1 := (fi_between (r := x.2.1) (u := u) (row := row) hk2 (by simp) (show (0 : Int) ≤ 0 by omega) (show (0 : Int) + 1 < ([0, (x.1.length : Int) - 1] : List Int).length by simp) hrow.1 hrow.2).1
  have e1' : Fi x.2.1 [0, (x.1.length : Int) - 1] row u = fig x.2.1 0 ((x.1.length : Int) - 1) row (List.getD u (0 : Int).toNat 0) (List.getD u ((x.1.length : Int) - 1).toNat 0) := e1
  have wd : IntKind.i64.wrap (List.getD u ((x.1.length : Int) - 1).toNat 0 - List.getD u (0 : Int).toNat 0) = List.getD u ((x.1.length : Int) - 1).toNat 0 - List.getD u (0 : Int).toNat 0 := wr (by omega) (by omega)
  obtain ⟨L, z1, z2⟩ := f28_fig (List.getD u ((x.1.length : Int) - 1).toNat 0 - List.getD u (0 : Int).toNat 0) ((x.1.length : Int) - 1) x.2.1 (by omega) (by omega) (by omega) (by omega) ht.2.1.1 ht.2.1.2
  have e29 : f29 (List.getD u ((x.1.length : Int) - 1).toNat 0 - List.getD u (0 : Int).toNat 0, ((x.1.length : Int) - 1, ())) = .ret true := by
    rw [f29_at', dT (by omega)]
  have zl := z2.1
  have ql := q3.1
  have w2 : IntKind.i64.wrap ((x.1.length : Int) - 1 + 1) = x.1.length := by rw [wr (by omega) (by omega)]; omega
  have j3 : inb 0 L.length = true := inbT (by omega) (by omega)
  have j4 : inb ((x.1.length : Int) - 1) L.length = true := inbT (by omega) (by omega)
  have L0 : List.getD L (0 : Int).toNat 0 = 0 := by
    rw [z2.2 0 (by omega) (by omega)]
    exact rd_self (by omega) 0 (by rw [Int.mul_zero, Int.zero_mul])
  have Ln : List.getD L ((x.1.length : Int) - 1).toNat 0 = List.getD u ((x.1.length : Int) - 1).toNat 0 - List.getD u (0 : Int).toNat 0 := by
    rw [z2.2 _ (by omega) (by omega)]
    exact rd_self (by omega) _ rfl
  simp only [t1, r1, Bool.not_true, e35, dT hrow, wn, j1, j2, cond_true, wd, e29, z1, q1, nF (rfl : (0 : Int) = 0), w2, nF (show (L.length : Int) = x.1.length by omega), nF (show (l.length : Int) = x.1.length by omega), j3, j4, nF L0, nF Ln]
  refine loop5 x u L l row tl (by omega) (by omega) (by omega) ⟨hrow.1, by omega⟩ _ wd (fun hd i i1 i2 => ?_) (fun hd i i1 i2 => ?_) (fun h4 => ?_) (x.1.length - 1) fuel 1 (by omega) (by omega) (by omega)
  · rw [z2.2 _ (by omega) (by omega), z2.2 _ (by omega) (by omega)]
    refine rd_mono (by omega) ?_
    rw [Int.mul_sub, Int.mul_one]; omega
  · rw [z2.2 _ (by omega) (by omega), z2.2 _ (by omega) (by omega)]
    refine rd_mono (by omega) ?_
    rw [Int.mul_sub, Int.mul_one]; omega
  · rw [g1]
    try dsimp only
    have zr : List.getD L row.toNat 0 = rd ((List.getD u ((x.1.length : Int) - 1).toNat 0 - List.getD u (0 : Int).toNat 0) * row) ((x.1.length : Int) - 1) x.2.1 := z2.2 row hrow.1 (by omega)
    rw [e1', zr]
    have bd := fi_small (r := x.2.1) hk2 (by simp) (tr_sm ht hu) hrow.1 hrow.2
    rw [e1'] at bd
    rw [wr (by omega) (by omega)]
    unfold fig
    have e : List.getD u (0 : Int).toNat 0 * ((x.1.length : Int) - 1 - row) + List.getD u ((x.1.length : Int) - 1).toNat 0 * (row - 0) = List.getD u (0 : Int).toNat 0 * ((x.1.length : Int) - 1) + (List.getD u ((x.1.length : Int) - 1).toNat 0 - List.getD u (0 : Int).toNat 0) * row := by
      rw [Int.mul_sub, Int.sub_mul, Int.sub_zero]; omega
    rw [e, Int.sub_zero, rd_shift (by omega) h4]
    omega
end Go.V
