/- A part of the proof of a law of the step table. -/
import Derived.Test.YtpnilbemlgbokaaGreatDoorPJ
set_option linter.all false
namespace Go.V
open Go.Proofs
def cat (R : List (List UInt8)) : List UInt8 := (R.map (· ++ [10])).flatten
theorem cat_cons (r : List UInt8) (R : List (List UInt8)) : cat (r :: R) = r ++ 10 :: cat R := by simp [cat]
theorem cat_inj : ∀ (R S : List (List UInt8)), (∀ r ∈ R, (10 : UInt8) ∉ r) → (∀ r ∈ S, (10 : UInt8) ∉ r) → cat R = cat S → R = S
  | [], [], _, _, _ => rfl
  | [], s :: S, _, _, h => by
    have := congrArg List.length h
    rw [cat_cons] at this
    simp [cat] at this
  | r :: R, [], _, _, h => by
    have := congrArg List.length h
    rw [cat_cons] at this
    simp [cat] at this
  | r :: R, s :: S, hR, hS, h => by
    rw [cat_cons, cat_cons] at h
    have e1 := split_cons (a := r) (b := cat R) (c := 10) (hR r (by simp))
    have e2 := split_cons (a := s) (b := cat S) (c := 10) (hS s (by simp))
    rw [h, e2] at e1
    have e3 : s = r := (List.cons.inj e1).1
    subst e3
    have h4 := List.append_cancel_left h
    rw [cat_inj R S (fun q hq => hR q (by simp [hq])) (fun q hq => hS q (by simp [hq])) (List.cons.inj h4).2]
theorem set_cat (b : UInt8) : ∀ (R : List (List UInt8)) (p : Nat), p < (cat R).length → List.getD (cat R) p 0 ≠ 10 →
    ∃ i k, i < R.length ∧ k < (List.getD R i []).length ∧ List.getD (List.getD R i []) k 0 = List.getD (cat R) p 0 ∧ (cat R).set p b = cat (R.set i ((List.getD R i []).set k b))
  | [], p, h, _ => by simp [cat] at h
  | r :: R, p, h, hn => by
    rw [cat_cons] at h hn ⊢
    by_cases h1 : p < r.length
    · refine ⟨0, p, by simp, by simpa using h1, ?_, ?_⟩
      · simp only [List.getD_eq_getElem?_getD, List.getElem?_append_left h1]; rfl
      · show _ = cat ((r.set p b) :: R)
        rw [cat_cons, List.set_append, if_pos h1]
    · by_cases h2 : p = r.length
      · exact absurd (by rw [h2]; simp [List.getD_eq_getElem?_getD]) hn
      · obtain ⟨q, rfl⟩ : ∃ q, p = r.length + (q + 1) := ⟨p - r.length - 1, by omega⟩
        have hg : List.getD (r ++ 10 :: cat R) (r.length + (q + 1)) 0 = List.getD (cat R) q 0 := by
          rw [List.getD_eq_getElem?_getD, List.getElem?_append_right (by omega), Nat.add_sub_cancel_left, List.getElem?_cons_succ, ← List.getD_eq_getElem?_getD]
        rw [hg] at hn ⊢
        obtain ⟨i, k, a1, a2, a3, a4⟩ := set_cat b R q (by simp at h; omega) hn
        refine ⟨i + 1, k, by simpa using a1, a2, a3, ?_⟩
        show _ = cat (r :: R.set i ((List.getD R i []).set k b))
        rw [cat_cons, List.set_append, if_neg h1, Nat.add_sub_cancel_left, List.set_cons_succ, a4]
def sI (i : Int) : Int → List UInt8 → Int
  | _, [] => 0
  | k, b :: bs => ((b.toNat : Nat) : Int) * (k + 1) * (i + 1) + sI i (k + 1) bs
def sO : Int → List (List UInt8) → Int
  | _, [] => 0
  | i, r :: R => sI i 0 r + sO (i + 1) R
theorem term_bd (b : UInt8) {k i : Int} (k0 : 0 ≤ k) (k1 : k ≤ 1000) (i0 : 0 ≤ i) (i1 : i ≤ 1000) :
    (0 ≤ ((b.toNat : Nat) : Int) ∧ ((b.toNat : Nat) : Int) ≤ 255) ∧ (0 ≤ ((b.toNat : Nat) : Int) * (k + 1) ∧ ((b.toNat : Nat) : Int) * (k + 1) ≤ 255255) ∧ 0 ≤ ((b.toNat : Nat) : Int) * (k + 1) * (i + 1) ∧ ((b.toNat : Nat) : Int) * (k + 1) * (i + 1) ≤ 256000000 := by
  have hb := b.toNat_lt
  have a0 : ((b.toNat : Nat) : Int) ≤ 255 := by omega
  have a1 : 0 ≤ ((b.toNat : Nat) : Int) * (k + 1) := Int.mul_nonneg (by omega) (by omega)
  have a2 : ((b.toNat : Nat) : Int) * (k + 1) ≤ 255 * 1001 := Int.mul_le_mul a0 (by omega) (by omega) (by omega)
  have a3 := Int.mul_nonneg a1 (show 0 ≤ i + 1 by omega)
  have a4 : ((b.toNat : Nat) : Int) * (k + 1) * (i + 1) ≤ 255255 * 1001 := Int.mul_le_mul (by omega) (by omega) (by omega) (by omega)
  exact ⟨⟨by omega, a0⟩, ⟨a1, by omega⟩, a3, by omega⟩
theorem ckI_sum {i : Int} (i0 : 0 ≤ i) (i1 : i ≤ 1000) : ∀ (bs : List UInt8) (k c : Int), 0 ≤ k → k + bs.length ≤ 1000 → 0 ≤ c → c + 256000000 * (bs.length : Int) ≤ 9000000000000000000 →
    ckI i k c bs = c + sI i k bs ∧ 0 ≤ sI i k bs ∧ sI i k bs ≤ 256000000 * (bs.length : Int)
  | [], k, c, _, _, _, _ => by simp [ckI, sI]
  | b :: bs, k, c, k0, k1, c0, c1 => by
    rw [List.length_cons] at k1 c1
    obtain ⟨⟨a1, a2⟩, ⟨a3, a4⟩, a5, a6⟩ := term_bd b (k := k) (i := i) k0 (by omega) i0 i1
    have w1 : IntKind.i64.wrap ((b.toNat : Nat) : Int) = ((b.toNat : Nat) : Int) := wr (by omega) (by omega)
    have w2 : IntKind.i64.wrap (k + 1) = k + 1 := wr (by omega) (by omega)
    have w3 : IntKind.i64.wrap (i + 1) = i + 1 := wr (by omega) (by omega)
    have w4 : IntKind.i64.wrap (((b.toNat : Nat) : Int) * (k + 1)) = ((b.toNat : Nat) : Int) * (k + 1) := wr (by omega) (by omega)
    have w5 : IntKind.i64.wrap (((b.toNat : Nat) : Int) * (k + 1) * (i + 1)) = ((b.toNat : Nat) : Int) * (k + 1) * (i + 1) := wr (by omega) (by omega)
    have w6 : IntKind.i64.wrap (c + ((b.toNat : Nat) : Int) * (k + 1) * (i + 1)) = c + ((b.toNat : Nat) : Int) * (k + 1) * (i + 1) := wr (by omega) (by omega)
    rw [ckI_cons, w1, w2, w4, w3, w5, w6]
    obtain ⟨b1, b2, b3⟩ := ckI_sum i0 i1 bs (k + 1) (c + ((b.toNat : Nat) : Int) * (k + 1) * (i + 1)) (by omega) (by omega) (by omega) (by omega)
    rw [b1, sI, List.length_cons]
    omega
theorem ckO_sum : ∀ (R : List (List UInt8)) (i c : Int), 0 ≤ i → i + R.length ≤ 1000 → (∀ r ∈ R, r.length ≤ 100) → 0 ≤ c → c + 25600000000 * (R.length : Int) ≤ 8000000000000000000 → ckO i c R = c + sO i R ∧ 0 ≤ sO i R
  | [], i, c, _, _, _, _, _ => by simp [ckO, sO]
  | r :: R, i, c, i0, i1, hr, c0, c1 => by
    rw [List.length_cons] at i1 c1
    have hl := hr r (by simp)
    obtain ⟨b1, b2, b3⟩ := ckI_sum (i := i) i0 (by omega) r 0 c (by omega) (by omega) c0 (by omega)
    rw [ckO, b1]
    obtain ⟨d1, d2⟩ := ckO_sum R (i + 1) (c + sI i 0 r) (by omega) (by omega) (fun q hq => hr q (by simp [hq])) (by omega) (by omega)
    rw [d1, sO]
    omega
theorem sI_set {i : Int} (v : UInt8) : ∀ (bs : List UInt8) (k : Int) (p : Nat), p < bs.length → sI i k (bs.set p v) = sI i k bs + (((v.toNat : Nat) : Int) - (((List.getD bs p 0).toNat : Nat) : Int)) * (k + p + 1) * (i + 1)
  | [], _, _, h => by simp at h
  | b :: bs, k, 0, _ => by
    show sI i k (v :: bs) = sI i k (b :: bs) + (((v.toNat : Nat) : Int) - ((b.toNat : Nat) : Int)) * (k + ((0 : Nat) : Int) + 1) * (i + 1)
    have e : k + ((0 : Nat) : Int) + 1 = k + 1 := by omega
    rw [sI, sI, e, Int.sub_mul, Int.sub_mul]
    omega
  | b :: bs, k, p + 1, h => by
    show sI i k (b :: bs.set p v) = sI i k (b :: bs) + (((v.toNat : Nat) : Int) - (((List.getD bs p 0).toNat : Nat) : Int)) * (k + ((p + 1 : Nat) : Int) + 1) * (i + 1)
    have e : k + ((p + 1 : Nat) : Int) + 1 = k + 1 + (p : Int) + 1 := by omega
    rw [sI, sI, sI_set v bs (k + 1) p (by simpa using h), e]
    omega
theorem sO_set (r' : List UInt8) : ∀ (R : List (List UInt8)) (i : Int) (j : Nat), j < R.length → sO i (R.set j r') = sO i R + (sI (i + j) 0 r' - sI (i + j) 0 (List.getD R j []))
  | [], _, _, h => by simp at h
  | r :: R, i, 0, _ => by
    show sO i (r' :: R) = sO i (r :: R) + (sI (i + ((0 : Nat) : Int)) 0 r' - sI (i + ((0 : Nat) : Int)) 0 r)
    have e : i + ((0 : Nat) : Int) = i := by omega
    rw [sO, sO, e]
    omega
  | r :: R, i, j + 1, h => by
    show sO i (r :: R.set j r') = sO i (r :: R) + (sI (i + ((j + 1 : Nat) : Int)) 0 r' - sI (i + ((j + 1 : Nat) : Int)) 0 (List.getD R j []))
    have e : i + ((j + 1 : Nat) : Int) = i + 1 + (j : Int) := by omega
    rw [sO, sO, sO_set r' R (i + 1) j (by simpa using h), e]
    omega
theorem itoa_dig {u : Nat} (h : u < 10) : Lib.itoa (u : Int) = [UInt8.ofNat (48 + u)] := by rw [itoa_pos, dec_small h]
theorem endT_at {c : Int} {m : Nat} (h : c = m) : endT c = [101, 110, 100, 32, UInt8.ofNat (48 + m % 241 / 100), UInt8.ofNat (48 + m % 241 / 10 % 10), UInt8.ofNat (48 + m % 241 % 10)] := by
  have e1 : c.tmod 241 = ((m % 241 : Nat) : Int) := by rw [h]; exact Int.ofNat_tmod m 241
  have e2 : ((m % 241 : Nat) : Int).tdiv 100 = ((m % 241 / 100 : Nat) : Int) := Int.ofNat_tdiv (m % 241) 100
  have e3 : ((m % 241 : Nat) : Int).tdiv 10 = ((m % 241 / 10 : Nat) : Int) := Int.ofNat_tdiv (m % 241) 10
  have w1 : IntKind.i64.wrap ((m % 241 / 100 : Nat) : Int) = ((m % 241 / 100 : Nat) : Int) := wr (by omega) (by omega)
  have w2 : IntKind.i64.wrap ((m % 241 / 10 : Nat) : Int) = ((m % 241 / 10 : Nat) : Int) := wr (by omega) (by omega)
  have e4 : ((m % 241 / 10 : Nat) : Int).tmod 10 = ((m % 241 / 10 % 10 : Nat) : Int) := Int.ofNat_tmod (m % 241 / 10) 10
  have e5 : ((m % 241 : Nat) : Int).tmod 10 = ((m % 241 % 10 : Nat) : Int) := Int.ofNat_tmod (m % 241) 10
  unfold endT
  rw [e1, e2, e3, w1, w2, e4, e5, itoa_dig (by omega), itoa_dig (by omega), itoa_dig (by omega)]
  rfl
theorem endT_inj {c d : Int} (hc : 0 ≤ c) (hd : 0 ≤ d) (h : endT c = endT d) : c % 241 = d % 241 := by
  rw [endT_at (m := c.toNat) (by omega), endT_at (m := d.toNat) (by omega)] at h
  simp only [List.cons.injEq, true_and, and_true] at h
  obtain ⟨h1, h2, h3⟩ := h
  have g1 := congrArg UInt8.toNat h1
  have g2 := congrArg UInt8.toNat h2
  have g3 := congrArg UInt8.toNat h3
  rw [digit_nat (by omega), digit_nat (by omega)] at g1 g2 g3
  omega
set_option maxRecDepth 10000 in
theorem p241 {a : Nat} (h0 : 0 < a) (h1 : a < 241) : Nat.Coprime 241 a := by
  have : ∀ a, a < 241 → 0 < a → Nat.gcd 241 a = 1 := by decide
  exact this a h1 h0
theorem no_dvd {d a b : Int} (d0 : d ≠ 0) (d1 : -241 < d) (d2 : d < 241) (a0 : 0 < a) (a1 : a < 241) (b0 : 0 < b) (b1 : b < 241) (h : (241 : Int) ∣ d * a * b) : False := by
  have h1 : 241 ∣ d.natAbs * a.natAbs * b.natAbs := by
    have := Int.natAbs_dvd_natAbs.2 h
    rwa [Int.natAbs_mul, Int.natAbs_mul] at this
  have h2 := (p241 (a := b.natAbs) (by omega) (by omega)).dvd_of_dvd_mul_right h1
  have h3 := (p241 (a := a.natAbs) (by omega) (by omega)).dvd_of_dvd_mul_right h2
  have := Nat.le_of_dvd (by omega) h3
  omega
theorem rowsL_nl (x : TABX) : ∀ r ∈ rowsL x, (10 : UInt8) ∉ r := by
  intro r hr
  unfold rowsL at hr
  rcases List.mem_cons.1 hr with rfl | hr
  · exact row_nl _ _ _ (by decide)
  · obtain ⟨s, _, rfl⟩ := List.mem_map.1 hr
    exact row_nl _ _ _ (by decide)
theorem txt_cat (R : List (List UInt8)) : txt R = cat (R ++ [endT (ckO 0 0 R)]) := by
  unfold txt cat
  simp
theorem spoilt {x y : TABX} (hx : Tb x) (hy : Rb y) {p : Nat} {v : UInt8} (hp : p < (txt (rowsL x)).length) (b1 : 48 ≤ (List.getD (txt (rowsL x)) p 0).toNat) (b2 : (List.getD (txt (rowsL x)) p 0).toNat ≤ 57)
    (v1 : 48 ≤ v.toNat) (v2 : v.toNat ≤ 57) (hne : v ≠ List.getD (txt (rowsL x)) p 0) : (txt (rowsL x)).set p v ≠ txt (rowsL y) := by
  intro h
  have lx : (rowsL x).length ≤ 14 := by have := hx.1; unfold rowsL; simp; omega
  have hxr := rowsL_rs (sb_tb hx)
  have hyr := rowsL_rs (sb_rb hy)
  rw [txt_cat] at hp b1 b2 hne h
  rw [txt_cat] at h
  obtain ⟨i, k, a1, a2, a3, a4⟩ := set_cat v _ p hp (fun e => by rw [e] at b1; exact absurd b1 (by decide))
  rw [a4] at h
  have nlv : v ≠ 10 := fun e => by rw [e] at v1; exact absurd v1 (by decide)
  have nx : ∀ r ∈ rowsL x ++ [endT (ckO 0 0 (rowsL x))], (10 : UInt8) ∉ r := fun r hr => by
    rcases List.mem_append.1 hr with hr | hr
    · exact rowsL_nl x r hr
    · rw [List.mem_singleton.1 hr]; exact end_nl _
  have ny : ∀ r ∈ rowsL y ++ [endT (ckO 0 0 (rowsL y))], (10 : UInt8) ∉ r := fun r hr => by
    rcases List.mem_append.1 hr with hr | hr
    · exact rowsL_nl y r hr
    · rw [List.mem_singleton.1 hr]; exact end_nl _
  have hRi : List.getD (rowsL x ++ [endT (ckO 0 0 (rowsL x))]) i [] ∈ rowsL x ++ [endT (ckO 0 0 (rowsL x))] := by
    rw [List.getD_eq_getElem?_getD, List.getElem?_eq_getElem a1]
    exact List.getElem_mem a1
  have hS := cat_inj _ _ (fun r hr hm => by
    rcases List.mem_or_eq_of_mem_set hr with hr | rfl
    · exact nx r hr hm
    · rcases List.mem_or_eq_of_mem_set hm with hm | hm
      · exact nx _ hRi hm
      · exact nlv hm.symm) ny h
  have hlen := congrArg List.length hS
  simp only [List.length_set, List.length_append, List.length_cons, List.length_nil] at hlen
  have cx := ckO_sum (rowsL x) 0 0 (by omega) (by have := hxr.1; omega) hxr.2 (by omega) (by have := hxr.1; omega)
  have cy := ckO_sum (rowsL y) 0 0 (by omega) (by have := hyr.1; omega) hyr.2 (by omega) (by have := hyr.1; omega)
  by_cases hi : i < (rowsL x).length
  · have eg : List.getD (rowsL x ++ [endT (ckO 0 0 (rowsL x))]) i [] = List.getD (rowsL x) i [] := by
      rw [List.getD_eq_getElem?_getD, List.getElem?_append_left hi, ← List.getD_eq_getElem?_getD]
    rw [eg] at hS a2 a3
    rw [List.set_append, if_pos hi] at hS
    obtain ⟨s1, s2⟩ := List.append_inj hS (by rw [List.length_set]; omega)
    have s3 := (List.cons.inj s2).1
    have hm := endT_inj (by omega) (by omega) s3
    have hkl : (List.getD (rowsL x) i []).length ≤ 100 := by
      have : List.getD (rowsL x) i [] ∈ rowsL x := by
        rw [List.getD_eq_getElem?_getD, List.getElem?_eq_getElem hi]
        exact List.getElem_mem hi
      exact hxr.2 _ this
    have e1 : sO 0 (rowsL y) = sO 0 (rowsL x) + (((v.toNat : Nat) : Int) - (((List.getD (List.getD (rowsL x) i []) k 0).toNat : Nat) : Int)) * (0 + (k : Int) + 1) * (0 + (i : Int) + 1) := by
      rw [← s1, sO_set _ _ _ _ hi, sI_set v _ _ _ a2]
      omega
    rw [a3] at e1
    have hd : ((v.toNat : Nat) : Int) - (((List.getD (cat (rowsL x ++ [endT (ckO 0 0 (rowsL x))])) p 0).toNat : Nat) : Int) ≠ 0 := fun e => hne (UInt8.toNat_inj.1 (by omega))
    refine no_dvd (a := 0 + (k : Int) + 1) (b := 0 + (i : Int) + 1) hd (by omega) (by omega) (by omega) (by omega) (by omega) (by omega) ?_
    rw [cx.1, cy.1, e1] at hm
    generalize (((v.toNat : Nat) : Int) - (((List.getD (cat (rowsL x ++ [endT (ckO 0 0 (rowsL x))])) p 0).toNat : Nat) : Int)) * (0 + (k : Int) + 1) * (0 + (i : Int) + 1) = z at hm ⊢
    omega
  · have ei : i = (rowsL x).length := by
      simp only [List.length_append, List.length_cons, List.length_nil] at a1
      omega
    have eg : List.getD (rowsL x ++ [endT (ckO 0 0 (rowsL x))]) i [] = endT (ckO 0 0 (rowsL x)) := by
      rw [ei, List.getD_eq_getElem?_getD, List.getElem?_append_right (by omega), Nat.sub_self]; rfl
    rw [eg] at hS a2 a3
    rw [List.set_append, if_neg hi, ei, Nat.sub_self] at hS
    obtain ⟨s1, s2⟩ := List.append_inj hS (by omega)
    have s3 : (endT (ckO 0 0 (rowsL x))).set k v = endT (ckO 0 0 (rowsL y)) := (List.cons.inj s2).1
    rw [← s1] at s3
    have := congrArg (fun l => List.getD l k 0) s3
    simp only [List.getD_eq_getElem?_getD, List.getElem?_set_self a2, Option.getD_some] at this
    rw [← List.getD_eq_getElem?_getD, a3] at this
    exact hne this
end Go.V
