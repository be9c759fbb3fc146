/- A part of the proof of a law of the step table. -/
import Derived.Test.YtpnilbemlgbokaaGreatDoorPA
import Derived.Lib.ItoaLen
set_option linter.all false
namespace Go.V
open Go.Proofs
theorem f149_at (n : Int) (h1 : -1000000 ≤ n) (h2 : n ≤ 1000000) : f149 (n, ()) = .ret (Lib.itoa n) := by
  unfold f149
  simp only [dT (show -9223372036854775808 ≤ n by omega), dT (show n ≤ 9223372036854775807 by omega), Bool.and_self, cond_true]
theorem dec_small {u : Nat} (h : u < 10) : Lib.decDigits u = [UInt8.ofNat (48 + u)] := by rw [Lib.decDigits, dif_pos h]
theorem dec_big {u : Nat} (h : ¬ u < 10) : Lib.decDigits u = Lib.decDigits (u / 10) ++ [UInt8.ofNat (48 + u % 10)] := by rw [Lib.decDigits, dif_neg h]
theorem dec_len : ∀ (k u : Nat), u < 10 ^ (k + 1) → (Lib.decDigits u).length ≤ k + 1
  | 0, u, h => by rw [dec_small (by simpa using h)]; simp
  | k + 1, u, h => by
    by_cases c : u < 10
    · rw [dec_small c]; simp
    · rw [dec_big c, List.length_append]
      have := dec_len k (u / 10) (by rw [Nat.pow_succ] at h; omega)
      simp; omega
theorem itoa_pos (u : Nat) : Lib.itoa (u : Int) = Lib.decDigits u := by unfold Lib.itoa; rw [if_neg (by omega)]; simp
theorem itoa_short {n : Int} (h1 : -1000000 < n) (h2 : n < 1000000) : (Lib.itoa n).length ≤ 7 := by
  unfold Lib.itoa
  split
  · have := dec_len 5 n.natAbs (by omega)
    rw [List.length_cons]; omega
  · have := dec_len 5 n.toNat (by omega)
    omega
def rowT (w : List UInt8) (a b : Int) : List UInt8 := w ++ (32 :: Lib.itoa a) ++ (32 :: Lib.itoa b)
theorem rowT_len {w : List UInt8} {a b : Int} (hw : w.length ≤ 10) (a1 : -100000 ≤ a ∧ a ≤ 100000) (b1 : -100000 ≤ b ∧ b ≤ 100000) : (rowT w a b).length ≤ 26 := by
  have := itoa_short (n := a) (by omega) (by omega)
  have := itoa_short (n := b) (by omega) (by omega)
  unfold rowT
  simp; omega
theorem two_get (a b : Int) : List.getD [a, b] (0 : Int).toNat 0 = a ∧ List.getD [a, b] (1 : Int).toNat 0 = b ∧ (([a, b] : List Int).length : Int) = 2 ∧ inb 0 ([a, b] : List Int).length = true ∧ inb 1 ([a, b] : List Int).length = true := ⟨rfl, rfl, rfl, rfl, rfl⟩
theorem told_b (a b : Int) (a1 : -100000 ≤ a ∧ a ≤ 100000) (b1 : -100000 ≤ b ∧ b ≤ 100000) : f148b ((a, (b, ())), ()) = .ret (rowT [118, 97, 108, 117, 101] a b) := by
  have hfb := fuel_big
  obtain ⟨j, hj⟩ : ∃ j, fuel = j + 1 + 1 + 1 := ⟨fuel - 3, by omega⟩
  obtain ⟨g0, g1, gl, i0, i1⟩ := two_get a b
  have la := itoa_short (n := a) (by omega) (by omega)
  have lb := itoa_short (n := b) (by omega) (by omega)
  have e0 : f148b ((a, (b, ())), ()) = F148b fuel ((a, (b, ())), ()) := by first | exact (q148b _).symm.trans (e148b fuel _) | rfl
  rw [e0]
  unfold F148b
  have key : ∀ N j : Nat, L148b_0 N (j + 1 + 1 + 1) ((a, (b, ())), ()) [118, 97, 108, 117, 101] [a, b] 0 = .ret (rowT [118, 97, 108, 117, 101] a b) := by
    intro N j
    rw [L148b_0_succ]; try delta lenI
    simp only [gl, dT (show (0 : Int) < 2 by decide), i0, g0, cond_true, f149_at a (by omega) (by omega), dT (show ([32] : List UInt8).length + (Lib.itoa a).length < 1000000 by simp; omega), dT (show ([118, 97, 108, 117, 101] : List UInt8).length + (([32] : List UInt8) ++ Lib.itoa a).length < 1000000 by simp; omega), show IntKind.i64.wrap (0 + 1) = 1 from rfl]
    rw [L148b_0_succ]; try delta lenI
    simp only [gl, dT (show (1 : Int) < 2 by decide), i1, g1, cond_true, f149_at b (by omega) (by omega), dT (show ([32] : List UInt8).length + (Lib.itoa b).length < 1000000 by simp; omega), dT (show (([118, 97, 108, 117, 101] : List UInt8) ++ (([32] : List UInt8) ++ Lib.itoa a)).length + (([32] : List UInt8) ++ Lib.itoa b).length < 1000000 by simp; omega), show IntKind.i64.wrap (1 + 1) = 2 from rfl]
    rw [L148b_0_succ]; try delta lenI
    simp only [gl, dF (show ¬ (2 : Int) < 2 by decide)]
    rfl
  have := key fuel j
  rw [← hj] at this
  exact this
theorem told_a (x : (List (Int × (Int × Unit))) × (Int × (Int × Unit))) (a1 : -100000 ≤ x.2.2.1 ∧ x.2.2.1 ≤ 100000) (b1 : -100000 ≤ x.2.1 ∧ x.2.1 ≤ 100000) : f148a ((x, ()), ()) = .ret (rowT [116, 97, 98, 108, 101] x.2.2.1 x.2.1) := by
  have hfb := fuel_big
  obtain ⟨j, hj⟩ : ∃ j, fuel = j + 1 + 1 + 1 := ⟨fuel - 3, by omega⟩
  obtain ⟨g0, g1, gl, i0, i1⟩ := two_get x.2.2.1 x.2.1
  have la := itoa_short (n := x.2.2.1) (by omega) (by omega)
  have lb := itoa_short (n := x.2.1) (by omega) (by omega)
  have e0 : f148a ((x, ()), ()) = F148a fuel ((x, ()), ()) := by first | exact (q148a _).symm.trans (e148a fuel _) | rfl
  rw [e0]
  unfold F148a
  have key : ∀ N j : Nat, L148a_0 N (j + 1 + 1 + 1) ((x, ()), ()) [116, 97, 98, 108, 101] [x.2.2.1, x.2.1] 0 = .ret (rowT [116, 97, 98, 108, 101] x.2.2.1 x.2.1) := by
    intro N j
    rw [L148a_0_succ]; try delta lenI
    simp only [gl, dT (show (0 : Int) < 2 by decide), i0, g0, cond_true, f149_at x.2.2.1 (by omega) (by omega), dT (show ([32] : List UInt8).length + (Lib.itoa x.2.2.1).length < 1000000 by simp; omega), dT (show ([116, 97, 98, 108, 101] : List UInt8).length + (([32] : List UInt8) ++ Lib.itoa x.2.2.1).length < 1000000 by simp; omega), show IntKind.i64.wrap (0 + 1) = 1 from rfl]
    rw [L148a_0_succ]; try delta lenI
    simp only [gl, dT (show (1 : Int) < 2 by decide), i1, g1, cond_true, f149_at x.2.1 (by omega) (by omega), dT (show ([32] : List UInt8).length + (Lib.itoa x.2.1).length < 1000000 by simp; omega), dT (show (([116, 97, 98, 108, 101] : List UInt8) ++ (([32] : List UInt8) ++ Lib.itoa x.2.2.1)).length + (([32] : List UInt8) ++ Lib.itoa x.2.1).length < 1000000 by simp; omega), show IntKind.i64.wrap (1 + 1) = 2 from rfl]
    rw [L148a_0_succ]; try delta lenI
    simp only [gl, dF (show ¬ (2 : Int) < 2 by decide)]
    rfl
  have := key fuel j
  rw [← hj] at this
  exact this
def ckI (i : Int) : Int → Int → List UInt8 → Int
  | _, c, [] => c
  | k, c, b :: bs => ckI i (k + 1) (IntKind.i64.wrap (c + (IntKind.i64.wrap ((IntKind.i64.wrap ((IntKind.i64.wrap ((b.toNat : Nat) : Int)) * (IntKind.i64.wrap (k + 1)))) * (IntKind.i64.wrap (i + 1)))))) bs
def ckO : Int → Int → List (List UInt8) → Int
  | _, c, [] => c
  | i, c, r :: rs => ckO (i + 1) (ckI i 0 c r) rs
theorem ckI_cons (i k c : Int) (b : UInt8) (bs : List UInt8) : ckI i k c (b :: bs) = ckI i (k + 1) (IntKind.i64.wrap (c + (IntKind.i64.wrap ((IntKind.i64.wrap ((IntKind.i64.wrap ((b.toNat : Nat) : Int)) * (IntKind.i64.wrap (k + 1)))) * (IntKind.i64.wrap (i + 1)))))) bs := rfl
def endT (c : Int) : List UInt8 := [101, 110, 100, 32] ++ Lib.itoa (IntKind.i64.wrap ((c.tmod 241).tdiv 100)) ++ Lib.itoa ((IntKind.i64.wrap ((c.tmod 241).tdiv 10)).tmod 10) ++ Lib.itoa ((c.tmod 241).tmod 10)
def txt (rows : List (List UInt8)) : List UInt8 := (rows.map (· ++ [10])).flatten ++ endT (ckO 0 0 rows) ++ [10]
theorem drop_byte {r : List UInt8} {k : Int} (h1 : 0 ≤ k) (h2 : k < r.length) : r.drop k.toNat = List.getD r k.toNat 0 :: r.drop (k + 1).toNat := by
  have h3 : k.toNat < r.length := by omega
  have e : (k + 1).toNat = k.toNat + 1 := by omega
  rw [List.drop_eq_getElem_cons h3, e, List.getD_eq_getElem?_getD, List.getElem?_eq_getElem h3]; rfl
theorem drop_row {rows : List (List UInt8)} {i : Int} (h1 : 0 ≤ i) (h2 : i < rows.length) : rows.drop i.toNat = List.getD rows i.toNat ([] : List UInt8) :: rows.drop (i + 1).toNat := by
  have h3 : i.toNat < rows.length := by omega
  have e : (i + 1).toNat = i.toNat + 1 := by omega
  rw [List.drop_eq_getElem_cons h3, e, List.getD_eq_getElem?_getD, List.getElem?_eq_getElem h3]; rfl
theorem tm_bd (n p : Int) (hp : 0 < p) : -p < n.tmod p ∧ n.tmod p < p := by
  have a := Int.tmod_lt_of_pos n hp
  have b := Int.tmod_lt_of_pos (-n) hp
  rw [Int.neg_tmod] at b
  omega
theorem parts (c : Int) : (-1000000 ≤ IntKind.i64.wrap ((c.tmod 241).tdiv 100) ∧ IntKind.i64.wrap ((c.tmod 241).tdiv 100) ≤ 1000000) ∧ (-1000000 ≤ (IntKind.i64.wrap ((c.tmod 241).tdiv 10)).tmod 10 ∧ (IntKind.i64.wrap ((c.tmod 241).tdiv 10)).tmod 10 ≤ 1000000) ∧ (-1000000 ≤ (c.tmod 241).tmod 10 ∧ (c.tmod 241).tmod 10 ≤ 1000000) ∧
    (Lib.itoa (IntKind.i64.wrap ((c.tmod 241).tdiv 100))).length ≤ 7 ∧ (Lib.itoa ((IntKind.i64.wrap ((c.tmod 241).tdiv 10)).tmod 10)).length ≤ 7 ∧ (Lib.itoa ((c.tmod 241).tmod 10)).length ≤ 7 := by
  have h1 := tm_bd c 241 (by omega)
  have h2 := tq_small (n := c.tmod 241) (p := 100) (by omega) (B := 241) (by omega) (by omega)
  have w : IntKind.i64.wrap ((c.tmod 241).tdiv 100) = (c.tmod 241).tdiv 100 := wr (by omega) (by omega)
  have h3 := tm_bd (IntKind.i64.wrap ((c.tmod 241).tdiv 10)) 10 (by omega)
  have h4 := tm_bd (c.tmod 241) 10 (by omega)
  rw [w]
  exact ⟨⟨by omega, by omega⟩, ⟨by omega, by omega⟩, ⟨by omega, by omega⟩, itoa_short (by omega) (by omega), itoa_short (by omega) (by omega), itoa_short (by omega) (by omega)⟩
theorem join_flat (e : List UInt8) : ∀ r : List (List UInt8), Lib.join (r ++ [e]) [10] = (r.map (· ++ [10])).flatten ++ e
  | [] => by rw [List.nil_append, Lib.join_one]; rfl
  | a :: r => by
    rw [List.cons_append, Lib.join_cons]
    have ih := join_flat e r
    cases r with
    | nil => simp [Lib.joinTail]
    | cons b r =>
      rw [List.cons_append, Lib.join_cons] at ih
      simp only [List.cons_append, Lib.joinTail, List.map_cons, List.flatten_cons] at ih ⊢
      rw [List.append_assoc, ih]
      simp
def Rs (rows : List (List UInt8)) : Prop := rows.length ≤ 1000 ∧ ∀ r ∈ rows, r.length ≤ 100
theorem flat_len : ∀ rows : List (List UInt8), (∀ r ∈ rows, r.length ≤ 100) → ((rows.map (· ++ [10])).flatten).length ≤ 101 * rows.length
  | [], _ => by simp
  | r :: rows, h => by
    have := flat_len rows fun q hq => h q (by simp [hq])
    have := h r (by simp)
    simp only [List.map_cons, List.flatten_cons, List.length_append, List.length_cons, List.length_nil] at *
    omega
theorem row_at {rows : List (List UInt8)} (h : Rs rows) {i : Int} (h1 : 0 ≤ i) (h2 : i < rows.length) : (List.getD rows i.toNat ([] : List UInt8)).length ≤ 100 := by
  have h3 : i.toNat < rows.length := by omega
  have : List.getD rows i.toNat ([] : List UInt8) ∈ rows := by
    rw [List.getD_eq_getElem?_getD, List.getElem?_eq_getElem h3]
    exact List.getElem_mem h3
  exact h.2 _ this
theorem seal_p (rows : List (List UInt8)) (h : Rs rows) : ∀ (m f : Nat) (i c : Int), m < f → 0 ≤ i → i + m = rows.length → L114_1 fuel f rows rows c i = .ret ((rows.map (· ++ [10])).flatten ++ endT (ckO i c (rows.drop i.toNat)) ++ [10]) := by
  have hfb := fuel_big
  have fl := flat_len rows h.2
  have hl := h.1
  intro m
  induction m with
  | zero =>
    intro f i c hf hi he
    obtain ⟨f, rfl⟩ := succ_of hf
    have ed : rows.drop i.toNat = [] := List.drop_eq_nil_of_le (by omega)
    obtain ⟨p1, p2, p3, l1, l2, l3⟩ := parts c
    rw [L114_1_succ]; try delta lenI
    have lf : ((rows.map (· ++ [10])).flatten ++ endT c).length < 1000000 := by
      unfold endT
      simp only [List.length_append, List.length_cons, List.length_nil]; omega
    have e150 : f150 (rows ++ [endT c], ([10], ())) = .ret ((rows.map (· ++ [10])).flatten ++ endT c) := by
      unfold f150
      simp only [dT (show (rows ++ [endT c]).length < 1000000 by simp; omega), dT lf, Bool.and_self, cond_true, join_flat]
    have e150' : f150 (rows ++ [([101, 110, 100, 32] ++ Lib.itoa (IntKind.i64.wrap ((c.tmod 241).tdiv 100)) ++ Lib.itoa ((IntKind.i64.wrap ((c.tmod 241).tdiv 10)).tmod 10) ++ Lib.itoa ((c.tmod 241).tmod 10))], ([10], ())) = .ret ((rows.map (· ++ [10])).flatten ++ endT c) := e150
    have b4 : ((rows.map (· ++ [10])).flatten ++ endT c).length + ([10] : List UInt8).length < 1000000 := by
      unfold endT
      simp only [List.length_append, List.length_cons, List.length_nil]; omega
    simp only [dF (show ¬ i < (rows.length : Int) by omega), f149_at _ p1.1 p1.2, f149_at _ p2.1 p2.2, f149_at _ p3.1 p3.2,
      dT (show ([101, 110, 100, 32] : List UInt8).length + (Lib.itoa (IntKind.i64.wrap ((c.tmod 241).tdiv 100))).length < 1000000 by simp; omega),
      dT (show (([101, 110, 100, 32] : List UInt8) ++ Lib.itoa (IntKind.i64.wrap ((c.tmod 241).tdiv 100))).length + (Lib.itoa ((IntKind.i64.wrap ((c.tmod 241).tdiv 10)).tmod 10)).length < 1000000 by simp; omega),
      dT (show ((([101, 110, 100, 32] : List UInt8) ++ Lib.itoa (IntKind.i64.wrap ((c.tmod 241).tdiv 100))) ++ Lib.itoa ((IntKind.i64.wrap ((c.tmod 241).tdiv 10)).tmod 10)).length + (Lib.itoa ((c.tmod 241).tmod 10)).length < 1000000 by simp; omega), cond_true,
      fitsT (show rows.length + ([(([101, 110, 100, 32] : List UInt8) ++ Lib.itoa (IntKind.i64.wrap ((c.tmod 241).tdiv 100)) ++ Lib.itoa ((IntKind.i64.wrap ((c.tmod 241).tdiv 10)).tmod 10) ++ Lib.itoa ((c.tmod 241).tmod 10))] : List (List UInt8)).length < 1000000 by simp; omega), e150', dT b4, ed]
    rfl
  | succ m ih =>
    intro f i c hf hi he
    obtain ⟨f, rfl⟩ := succ_of hf
    have hr := row_at h hi (show i < rows.length by omega)
    have inner : ∀ (d g : Nat) (c k : Int), d < g → 0 ≤ k → k + d = (List.getD rows i.toNat ([] : List UInt8)).length →
        L114_2 fuel f g i rows rows c k = L114_1 fuel f rows rows (ckI i k c ((List.getD rows i.toNat ([] : List UInt8)).drop k.toNat)) (i + 1) := by
      intro d
      induction d with
      | zero =>
        intro g c k hg hk hd
        obtain ⟨g, rfl⟩ := succ_of hg
        rw [L114_2_succ]; try delta lenI
        have ed : (List.getD rows i.toNat ([] : List UInt8)).drop k.toNat = [] := List.drop_eq_nil_of_le (by omega)
        rw [ed]
        simp only [dF (show ¬ k < ((List.getD rows i.toNat ([] : List UInt8)).length : Int) by omega), wr (show -9223372036854775808 ≤ i + 1 by omega) (show i + 1 ≤ 9223372036854775807 by omega)]
        rfl
      | succ d ihd =>
        intro g c k hg hk hd
        obtain ⟨g, rfl⟩ := succ_of hg
        rw [L114_2_succ]; try delta lenI
        rw [drop_byte hk (show k < (List.getD rows i.toNat ([] : List UInt8)).length by omega)]
        simp only [dT (show k < ((List.getD rows i.toNat ([] : List UInt8)).length : Int) by omega), inbT hk (show k < (List.getD rows i.toNat ([] : List UInt8)).length by omega), cond_true]
        have wk : IntKind.i64.wrap (k + 1) = k + 1 := wr (by omega) (by omega)
        rw [wk]
        rw [ihd g _ (k + 1) (by omega) (by omega) (by omega)]
        rw [ckI_cons, wk]
        rfl
    rw [L114_1_succ]; try delta lenI
    rw [drop_row hi (show i < rows.length by omega)]
    simp only [dT (show i < (rows.length : Int) by omega), inbT hi (show i < rows.length by omega), cond_true]
    rw [inner (List.getD rows i.toNat ([] : List UInt8)).length fuel c 0 (by omega) (by omega) (by omega), ih f (i + 1) _ (by omega) (by omega) (by omega)]
    rfl
end Go.V
