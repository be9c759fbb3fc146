/- A part of the proof of a law of the step table. -/
import Derived.Test.YtpnilbemlgbokaaGreatDoorPZ
import Derived.Laws.RangeAny
set_option linter.all false
namespace Go.V
open Go.Proofs
theorem split_ind (c : UInt8) {Q : List UInt8 → List (List UInt8) → Prop} (h0 : ∀ a, c ∉ a → Q a [a]) (h1 : ∀ a b r, c ∉ a → Q b r → Q (a ++ c :: b) (a :: r)) : ∀ (n : Nat) (s : List UInt8), s.length ≤ n → Q s (Lib.split s [c]) := by
  intro n
  induction n with
  | zero =>
    intro s hs
    have : s = [] := List.length_eq_zero_iff.1 (by omega)
    subst this
    rw [split_last (by simp)]
    exact h0 [] (by simp)
  | succ n ih =>
    intro s hs
    by_cases hc : c ∈ s
    · obtain ⟨a, b, e, ha⟩ := List.eq_append_cons_of_mem hc
      subst e
      rw [split_cons ha]
      exact h1 a b _ ha (ih b (by simp at hs; omega))
    · rw [split_last hc]
      exact h0 s hc
theorem split_len (s : List UInt8) (c : UInt8) : 1 ≤ (Lib.split s [c]).length ∧ (Lib.split s [c]).length ≤ s.length + 1 ∧ ∀ r ∈ Lib.split s [c], r.length ≤ s.length := by
  refine split_ind c (Q := fun s l => 1 ≤ l.length ∧ l.length ≤ s.length + 1 ∧ ∀ r ∈ l, r.length ≤ s.length) (fun a _ => ⟨by simp, by simp, fun r hr => by rw [List.mem_singleton.1 hr]; exact Nat.le_refl _⟩) (fun a b r _ h => ?_) s.length s (Nat.le_refl _)
  obtain ⟨q1, q2, q3⟩ := h
  refine ⟨by simp, by simp; omega, fun z hz => ?_⟩
  rcases List.mem_cons.1 hz with rfl | hz
  · simp
  · have := q3 z hz; simp; omega
theorem byteAt_eq (s : List UInt8) {i : Int} (h1 : 0 ≤ i) (h2 : i < s.length) : byteAt s i = (((List.getD s i.toNat 0).toNat : Nat) : Int) := rfl
def nt (s : List UInt8) : Value := .iface 163 (toVal (.prod .str .unit) ((valOf (.prod .str .unit) (s, ())).getD []))
theorem need_false (s : List UInt8) : f153 (false, (s, ())) = .pan (nt s) := rfl
theorem nt_err (s : List UInt8) : errOut (nt s) = .ret 4 := rfl
theorem rune_any {w : List UInt8} {p : Nat} (h : p < w.length) : 0 ≤ runeAt w p ∧ p < posAt w p ∧ runeAt w p ≤ 2147483647 := by
  have hs : p < (⟨⟨w⟩⟩ : ByteArray).size := h
  have hle := decode_le ⟨⟨w⟩⟩ p
  have hsz : 1 ≤ (Utf8.decode ⟨⟨w⟩⟩ p).2 := by
    by_cases ha : ((⟨⟨w⟩⟩ : ByteArray)[p]'hs).toNat < 128
    · rw [decode_ascii ⟨⟨w⟩⟩ p hs ha]; exact Nat.le_refl _
    · exact (decode_high ⟨⟨w⟩⟩ p hs (by omega)).2
  unfold runeAt posAt
  rw [dT h]
  refine ⟨by omega, ?_, by omega⟩
  show p < p + _
  omega
def B9 (p : Nat) : Int := if p = 0 then 1 else if p = 1 then 10 else if p = 2 then 100 else if p = 3 then 1000 else 10000
theorem given_any (w : List UInt8) (hw : w.length ≤ 100000) : (∃ n, f154 (w, ()) = .ret n ∧ 0 ≤ n ∧ n ≤ 9999) ∨ ∃ s, f154 (w, ()) = .pan (nt s) := by
  have hfb := fuel_big
  have key : ∀ (m f : Nat) (n : Int) (p : Nat), m < f → w.length ≤ p + m → 0 ≤ n → n < B9 p → (∃ n', L154_0 fuel f (w, ()) n p = .ret n' ∧ 0 ≤ n' ∧ n' ≤ 9999) ∨ ∃ s, L154_0 fuel f (w, ()) n p = .pan (nt s) := by
    intro m
    have fin : ∀ (f : Nat) (n : Int) (p : Nat), ¬ p < w.length → 0 ≤ n → n < B9 p → (∃ n', L154_0 fuel (f + 1) (w, ()) n p = .ret n' ∧ 0 ≤ n' ∧ n' ≤ 9999) ∨ ∃ s, L154_0 fuel (f + 1) (w, ()) n p = .pan (nt s) := by
      intro f n p hp hn hb
      have hn9 : n ≤ 9999 := by unfold B9 at hb; (repeat' split at hb) <;> omega
      rw [L154_0_succ]; try delta lenI
      cases hne : (w != ([] : List UInt8)) with
      | false =>
        simp only [dF hp, need_false]
        exact .inr ⟨w, rfl⟩
      | true =>
        simp only [dF hp, f149_at n (by omega) (by omega)]
        cases heq : (Lib.itoa n == w) with
        | false => simp only [need_false]; exact .inr ⟨w, rfl⟩
        | true => simp only [need_true]; exact .inl ⟨n, rfl, hn, hn9⟩
    induction m with
    | zero =>
      intro f n p hf he hn hb
      obtain ⟨f, rfl⟩ := succ_of hf
      exact fin f n p (by omega) hn hb
    | succ m ih =>
      intro f n p hf he hn hb
      obtain ⟨f, rfl⟩ := succ_of hf
      by_cases hp : p < w.length
      · obtain ⟨r1, r2, r3⟩ := rune_any hp
        rw [L154_0_succ]; try delta lenI
        by_cases c1 : runeAt w p ≥ 48
        · by_cases c2 : runeAt w p ≤ 57
          · by_cases c3 : (w.length : Int) ≤ 4
            · have hp4 : p < 4 := by omega
              have hn3 : n ≤ 999 := by unfold B9 at hb; (repeat' split at hb) <;> omega
              have w1 : IntKind.i32.wrap (runeAt w p - 48) = runeAt w p - 48 := wr32 (by omega) (by omega)
              simp only [dT hp, cond_true, dT c1, dT c2, dT c3, need_true, w1, wr (show -9223372036854775808 ≤ runeAt w p - 48 by omega) (show runeAt w p - 48 ≤ 9223372036854775807 by omega), wr (show -9223372036854775808 ≤ 10 * n by omega) (show 10 * n ≤ 9223372036854775807 by omega), wr (show -9223372036854775808 ≤ 10 * n + (runeAt w p - 48) by omega) (show 10 * n + (runeAt w p - 48) ≤ 9223372036854775807 by omega)]
              refine ih f _ (posAt w p) (by omega) (by omega) (by omega) ?_
              unfold B9 at hb ⊢
              (repeat' split at hb) <;> (repeat' split) <;> omega
            · simp only [dT hp, cond_true, dT c1, dT c2, dF c3, need_false]
              exact .inr ⟨w, rfl⟩
          · simp only [dT hp, cond_true, dT c1, dF c2, need_false]
            exact .inr ⟨w, rfl⟩
        · simp only [dT hp, cond_true, dF c1, need_false]
          exact .inr ⟨w, rfl⟩
      · exact fin f n p hp hn hb
  exact key w.length fuel 0 0 (by omega) (by omega) (by omega) (by unfold B9; simp)
theorem signed_any (w : List UInt8) (hw : w.length ≤ 100000) : (∃ n, f155 (w, ()) = .ret n ∧ -9999 ≤ n ∧ n ≤ 9999) ∨ ∃ s, f155 (w, ()) = .pan (nt s) := by
  have hp := prefix_at w
  unfold f155 F155
  split at hp
  · next r =>
    simp only [hp]
    rcases given_any r (by simp at hw; omega) with ⟨n, e, n0, n1⟩ | ⟨s, e⟩
    · simp only [e]
      by_cases c : n > 0
      · simp only [dT c, need_true]
        refine .inl ⟨_, rfl, ?_⟩
        rw [wr (by omega) (by omega)]; omega
      · simp only [dF c, need_false]
        exact .inr ⟨_, rfl⟩
    · simp only [e]
      exact .inr ⟨s, rfl⟩
  · simp only [hp]
    rcases given_any w hw with ⟨n, e, n0, n1⟩ | ⟨s, e⟩
    · simp only [e]
      exact .inl ⟨n, rfl, by omega, n1⟩
    · simp only [e]
      exact .inr ⟨s, rfl⟩
theorem row_in {rows : List (List UInt8)} {i : Int} (h1 : 0 ≤ i) (h2 : i < rows.length) : List.getD rows i.toNat ([] : List UInt8) ∈ rows := by
  have h3 : i.toNat < rows.length := by omega
  rw [List.getD_eq_getElem?_getD, List.getElem?_eq_getElem h3]
  exact List.getElem_mem h3
def Rl (t : List (Int × (Int × Unit))) : Prop := ∀ s ∈ t, (-9999 ≤ s.1 ∧ s.1 ≤ 9999) ∧ (-9999 ≤ s.2.1 ∧ s.2.1 ≤ 9999)
theorem rb_of {t : List (Int × (Int × Unit))} {r o : Int} (hl : t.length ≤ 900) (ht : Rl t) (hr : 0 ≤ r ∧ r ≤ 9999) (ho : 0 ≤ o ∧ o ≤ 9999) : Rb (t, (r, (o, ()))) := by
  refine ⟨hl, hr, ho, fun j j1 j2 => ?_⟩
  have h3 : j.toNat < t.length := by dsimp only at j2; omega
  have e : sp' (t, (r, (o, ()))) j = t[j.toNat] := by
    unfold sp'
    rw [List.getD_eq_getElem?_getD, List.getElem?_eq_getElem h3]; rfl
  rw [e]
  exact ht _ (List.getElem_mem h3)
theorem f117_any (s : List UInt8) (hs : s.length ≤ 400) : (∃ x, f117 (s, ()) = .ret x ∧ Rb x ∧ s = txt (rowsL x)) ∨ ∃ q, f117 (s, ()) = .pan (nt q) := by
  have hfb := fuel_big
  obtain ⟨R1, R2, R3⟩ := split_len s 10
  have es := f152_at s 10 (by omega)
  generalize Lib.split s [10] = R at *
  unfold f117 F117; try delta lenI
  by_cases c1 : (R.length : Int) ≥ 3
  rotate_left
  · simp only [es, dF c1, need_false]
    exact .inr ⟨_, rfl⟩
  have wl : IntKind.i64.wrap ((R.length : Int) - 2) = (R.length : Int) - 2 := wr (by omega) (by omega)
  have hcok : cutOk (1 : Int) ((R.length : Int) - 2) (R.length : Int) = true := by unfold cutOk; simp; omega
  have hCl : ((cut R (1 : Int) ((R.length : Int) - 2)).length : Int) = R.length - 3 := by unfold cut; simp; omega
  have hCm : ∀ r ∈ cut R (1 : Int) ((R.length : Int) - 2), r.length ≤ s.length := fun r hr => R3 r (List.mem_of_mem_drop (List.mem_of_mem_take hr))
  have m0 := R3 _ (row_in (rows := R) (show (0 : Int) ≤ 0 by omega) (by omega))
  have e0 := f152_at (List.getD R (0 : Int).toNat ([] : List UInt8)) 32 (by omega)
  obtain ⟨W1, W2, W3⟩ := split_len (List.getD R (0 : Int).toNat ([] : List UInt8)) 32
  generalize Lib.split (List.getD R (0 : Int).toNat ([] : List UInt8)) [32] = W at *
  have b1 := inbT (show (0 : Int) ≤ 0 by omega) (show (0 : Int) < R.length by omega)
  by_cases c2 : (W.length : Int) = 3
  rotate_left
  · simp only [es, dT c1, need_true, b1, cond_true, e0, eF c2, need_false]
    exact .inr ⟨_, rfl⟩
  have b2 := inbT (show (0 : Int) ≤ 1 by omega) (show (1 : Int) < W.length by omega)
  have b3 := inbT (show (0 : Int) ≤ 2 by omega) (show (2 : Int) < W.length by omega)
  have g1 := W3 _ (row_in (rows := W) (show (0 : Int) ≤ 1 by omega) (by omega))
  have g2 := W3 _ (row_in (rows := W) (show (0 : Int) ≤ 2 by omega) (by omega))
  rcases given_any (List.getD W (1 : Int).toNat ([] : List UInt8)) (by omega) with ⟨o, eo, o1, o2⟩ | ⟨q, eq⟩
  rotate_left
  · simp only [es, dT c1, need_true, b1, cond_true, e0, eT c2, b2, eq, b3]
    exact .inr ⟨_, rfl⟩
  rcases given_any (List.getD W (2 : Int).toNat ([] : List UInt8)) (by omega) with ⟨r, er, r1, r2⟩ | ⟨q, eq⟩
  rotate_left
  · simp only [es, dT c1, need_true, b1, cond_true, e0, eT c2, b2, eo, eq, b3]
    exact .inr ⟨_, rfl⟩
  simp only [es, dT c1, need_true, b1, cond_true, e0, eT c2, b2, eo, er, b3, wl, hcok]
  generalize hC : cut R (1 : Int) ((R.length : Int) - 2) = C at *
  have key : ∀ (m f : Nat) (i : Int) (t : List (Int × (Int × Unit))), m < f → 0 ≤ i → i + m = C.length → (t.length : Int) = i → Rl t →
      (∃ x, L117_0 fuel f (s, ()) R [] 0 0 t r o i = .ret x ∧ Rb x ∧ s = txt (rowsL x)) ∨ ∃ q, L117_0 fuel f (s, ()) R [] 0 0 t r o i = .pan (nt q) := by
    intro m
    induction m with
    | zero =>
      intro f i t hf hi he hl ht
      obtain ⟨f, rfl⟩ := succ_of hf
      have rb := rb_of (t := t) (r := r) (o := o) (by omega) ht ⟨r1, r2⟩ ⟨o1, o2⟩
      have e114 := f114_at _ (sb_rb rb)
      rw [L117_0_succ]; try delta lenI
      cases heq : (txt (rowsL (t, (r, (o, ())))) == s) with
      | false =>
        simp only [wl, hC, dF (show ¬ i < (C.length : Int) by omega), e114, heq, need_false]
        exact .inr ⟨_, rfl⟩
      | true =>
        simp only [wl, hC, dF (show ¬ i < (C.length : Int) by omega), e114, heq, need_true]
        exact .inl ⟨_, rfl, rb, (beq_iff_eq.1 heq).symm⟩
    | succ m ih =>
      intro f i t hf hi he hl ht
      obtain ⟨f, rfl⟩ := succ_of hf
      have hi2 : i < C.length := by omega
      have rl := hCm _ (row_in (rows := C) hi hi2)
      have ex := f152_at (List.getD C i.toNat ([] : List UInt8)) 32 (by omega)
      obtain ⟨X1, X2, X3⟩ := split_len (List.getD C i.toNat ([] : List UInt8)) 32
      generalize Lib.split (List.getD C i.toNat ([] : List UInt8)) [32] = X at *
      rw [L117_0_succ]; try delta lenI
      by_cases d2 : (X.length : Int) = 3
      rotate_left
      · simp only [wl, hC, dT hi2, inbT hi hi2, cond_true, ex, eF d2, need_false]
        exact .inr ⟨_, rfl⟩
      have h2 := inbT (show (0 : Int) ≤ 1 by omega) (show (1 : Int) < X.length by omega)
      have h3 := inbT (show (0 : Int) ≤ 2 by omega) (show (2 : Int) < X.length by omega)
      have k1 := X3 _ (row_in (rows := X) (show (0 : Int) ≤ 1 by omega) (by omega))
      have k2 := X3 _ (row_in (rows := X) (show (0 : Int) ≤ 2 by omega) (by omega))
      rcases signed_any (List.getD X (1 : Int).toNat ([] : List UInt8)) (by omega) with ⟨a, ea, a1, a2⟩ | ⟨q, eq⟩
      rotate_left
      · simp only [wl, hC, dT hi2, inbT hi hi2, cond_true, ex, eT d2, need_true, h2, eq, h3]
        exact .inr ⟨_, rfl⟩
      rcases signed_any (List.getD X (2 : Int).toNat ([] : List UInt8)) (by omega) with ⟨b, eb, b1, b2⟩ | ⟨q, eq⟩
      rotate_left
      · simp only [wl, hC, dT hi2, inbT hi hi2, cond_true, ex, eT d2, need_true, h2, ea, eq, h3]
        exact .inr ⟨_, rfl⟩
      simp only [wl, hC, dT hi2, inbT hi hi2, cond_true, ex, eT d2, need_true, h2, ea, eb, h3, fitsT (show t.length + [(a, (b, ()))].length < 1000000 by simp only [List.length_cons, List.length_nil]; omega), wr (show -9223372036854775808 ≤ i + 1 by omega) (show i + 1 ≤ 9223372036854775807 by omega)]
      refine ih f (i + 1) _ (by omega) (by omega) (by omega) (by simp; omega) fun z hz => ?_
      rcases List.mem_append.1 hz with hz | hz
      · exact ht z hz
      · rw [List.mem_singleton.1 hz]; exact ⟨⟨a1, a2⟩, ⟨b1, b2⟩⟩
  exact key C.length fuel 0 [] (by omega) (by omega) (by omega) rfl (fun z hz => by cases hz)
end Go.V
