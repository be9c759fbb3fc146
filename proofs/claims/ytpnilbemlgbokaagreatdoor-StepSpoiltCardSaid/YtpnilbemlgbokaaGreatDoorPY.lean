/- A part of the proof of a law of the step table. -/
import Derived.Test.YtpnilbemlgbokaaGreatDoorPX
set_option linter.all false
namespace Go.V
open Go.Proofs
def fd : Int → List UInt8 → Int
  | n, [] => n
  | n, b :: bs => fd (10 * n + (((b.toNat : Nat) : Int) - 48)) bs
theorem fd_app (b : UInt8) : ∀ (l : List UInt8) (n : Int), fd n (l ++ [b]) = 10 * fd n l + (((b.toNat : Nat) : Int) - 48)
  | [], _ => rfl
  | a :: l, n => by rw [List.cons_append]; exact fd_app b l _
theorem digit_nat {d : Nat} (h : d < 10) : (UInt8.ofNat (48 + d)).toNat = 48 + d := by
  rw [UInt8.toNat_ofNat']
  omega
theorem dec_digits : ∀ (k u : Nat), u ≤ k → (∀ b ∈ Lib.decDigits u, 48 ≤ b.toNat ∧ b.toNat ≤ 57) ∧ fd 0 (Lib.decDigits u) = u ∧ Lib.decDigits u ≠ [] := by
  intro k
  induction k with
  | zero =>
    intro u hu
    have : u = 0 := by omega
    subst this
    rw [dec_small (by omega)]
    exact ⟨fun b hb => by rw [List.mem_singleton.1 hb]; decide, rfl, by simp⟩
  | succ k ih =>
    intro u hu
    by_cases c : u < 10
    · rw [dec_small c]
      refine ⟨fun b hb => ?_, ?_, by simp⟩
      · rw [List.mem_singleton.1 hb, digit_nat c]; omega
      · unfold fd fd
        rw [digit_nat c]; omega
    · obtain ⟨h1, h2, h3⟩ := ih (u / 10) (by omega)
      rw [dec_big c]
      refine ⟨fun b hb => ?_, ?_, by simp⟩
      · rcases List.mem_append.1 hb with hb | hb
        · exact h1 b hb
        · rw [List.mem_singleton.1 hb, digit_nat (by omega)]; omega
      · rw [fd_app, h2, digit_nat (by omega)]; omega
theorem itoa_bytes (n : Int) : ∀ b ∈ Lib.itoa n, b = 45 ∨ (48 ≤ b.toNat ∧ b.toNat ≤ 57) := by
  intro b hb
  unfold Lib.itoa at hb
  split at hb
  · rcases List.mem_cons.1 hb with rfl | hb
    · exact .inl rfl
    · exact .inr ((dec_digits _ _ (Nat.le_refl _)).1 b hb)
  · exact .inr ((dec_digits _ _ (Nat.le_refl _)).1 b hb)
theorem itoa_no {n : Int} {c : UInt8} (h : c = 32 ∨ c = 10) : c ∉ Lib.itoa n := by
  intro hc
  rcases itoa_bytes n c hc with e | e
  · subst e; rcases h with h | h <;> cases h
  · rcases h with rfl | rfl <;> simp at e
theorem wr32 {x : Int} (h1 : -2147483648 ≤ x) (h2 : x ≤ 2147483647) : IntKind.i32.wrap x = x := by
  unfold IntKind.wrap
  simp only [IntKind.bits, IntKind.signed]
  simp
  split <;> omega
theorem need_true (s : List UInt8) : f153 (true, (s, ())) = .ret () := rfl
theorem prefix_at (w : List UInt8) : f170 (w, ([45], ())) = (match w with | 45 :: r => .ret (r, (true, ())) | _ => .ret (w, (false, ()))) := by
  unfold f170 F170 f178 F178 f189 F189; try delta lenI
  cases w with
  | nil =>
    simp only [dF (show ¬ (([] : List UInt8).length : Int) ≥ (([45] : List UInt8).length : Int) by decide), Bool.not_false]
  | cons b r =>
    have h1 : (((b :: r).length : Nat) : Int) ≥ (([45] : List UInt8).length : Int) := by simp; omega
    have h2 : cutOk (0 : Int) (([45] : List UInt8).length : Int) ((b :: r).length : Int) = true := by
      unfold cutOk; simp; omega
    have h3 : cut (b :: r) (0 : Int) (([45] : List UInt8).length : Int) = [b] := by unfold cut; simp
    have h4 : cutOk (([45] : List UInt8).length : Int) ((b :: r).length : Int) ((b :: r).length : Int) = true := by
      unfold cutOk; simp; omega
    have h5 : cut (b :: r) (([45] : List UInt8).length : Int) ((b :: r).length : Int) = r := by
      unfold cut; simp
    simp only [dT h1, h2, h3, cond_true, h4, h5]
    by_cases c : b = 45
    · subst c; rfl
    · have e : (([b] : List UInt8) == [45]) = false := by simp [c]
      simp only [e, Bool.not_false]
      split
      · next h => injection h with h _; exact absurd h c
      · rfl
theorem row_nl (w : List UInt8) (a b : Int) (hw : (10 : UInt8) ∉ w) : (10 : UInt8) ∉ rowT w a b := by
  unfold rowT
  intro h
  rcases List.mem_append.1 h with h | h
  · rcases List.mem_append.1 h with h | h
    · exact hw h
    · rcases List.mem_cons.1 h with h | h
      · cases h
      · exact itoa_no (.inr rfl) h
  · rcases List.mem_cons.1 h with h | h
    · cases h
    · exact itoa_no (.inr rfl) h
theorem end_nl (c : Int) : (10 : UInt8) ∉ endT c := by
  unfold endT
  intro h
  rcases List.mem_append.1 h with h | h
  · rcases List.mem_append.1 h with h | h
    · rcases List.mem_append.1 h with h | h
      · revert h; decide
      · exact itoa_no (.inr rfl) h
    · exact itoa_no (.inr rfl) h
  · exact itoa_no (.inr rfl) h
def Rb (x : TABX) : Prop := x.1.length ≤ 900 ∧ (0 ≤ x.2.1 ∧ x.2.1 ≤ 9999) ∧ (0 ≤ x.2.2.1 ∧ x.2.2.1 ≤ 9999) ∧ ∀ j : Int, 0 ≤ j → j < x.1.length → (-9999 ≤ (sp' x j).1 ∧ (sp' x j).1 ≤ 9999) ∧ (-9999 ≤ (sp' x j).2.1 ∧ (sp' x j).2.1 ≤ 9999)
theorem sb_rb {x : TABX} (h : Rb x) : Sb x := by
  obtain ⟨h1, h2, h3, h4⟩ := h
  refine ⟨h1, by omega, by omega, fun j j1 j2 => ?_⟩
  have := h4 j j1 j2
  omega
theorem txt_short {x : TABX} (ht : Tb x) : (txt (rowsL x)).length ≤ 270 := by
  have tl := ht.1
  have to := ht.2.2.1
  have tr := ht.2.1
  have il : ∀ n : Int, -9999 ≤ n → n ≤ 9999 → (Lib.itoa n).length ≤ 5 := fun n a b => by
    unfold Lib.itoa
    split
    · have := dec_len 3 n.natAbs (by omega); rw [List.length_cons]; omega
    · have := dec_len 3 n.toNat (by omega); omega
  have ir : (Lib.itoa x.2.1).length ≤ 1 := by
    unfold Lib.itoa
    rw [if_neg (by omega)]
    have := dec_len 0 x.2.1.toNat (by omega); omega
  have io : (Lib.itoa x.2.2.1).length ≤ 3 := by
    unfold Lib.itoa
    rw [if_neg (by omega)]
    have := dec_len 2 x.2.2.1.toNat (by omega); omega
  have fv : ∀ l : List (Int × (Int × Unit)), (∀ s ∈ l, Sp s) → (((l.map vT).map (· ++ [10])).flatten).length ≤ 18 * l.length := by
    intro l
    induction l with
    | nil => intro _; simp
    | cons s l ih =>
      intro hs
      have := ih fun q hq => hs q (by simp [hq])
      have q := hs s (by simp)
      unfold Sp at q
      have l1 := il s.1 (by omega) (by omega)
      have l2 := il s.2.1 (by omega) (by omega)
      have lv : (vT s).length ≤ 17 := by
        unfold vT rowT
        simp only [List.length_append, List.length_cons, List.length_nil]
        omega
      simp only [List.map_cons, List.flatten_cons, List.length_append, List.length_cons, List.length_nil] at *
      omega
  have hv := fv x.1 fun s hs => by
    obtain ⟨i, hi, e⟩ := List.mem_iff_getElem.1 hs
    have := ht.2.2.2 (i : Int) (by omega) (by omega)
    rw [Int.toNat_natCast, List.getD_eq_getElem?_getD, List.getElem?_eq_getElem hi] at this
    rw [← e]; exact this
  have hend : (endT (ckO 0 0 (rowsL x))).length ≤ 13 := by
    unfold endT
    have d : ∀ n : Int, -10 < n → n < 10 → (Lib.itoa n).length ≤ 2 := fun n a b => by
      unfold Lib.itoa
      split
      · have := dec_len 0 n.natAbs (by omega); rw [List.length_cons]; omega
      · have := dec_len 0 n.toNat (by omega); omega
    have h1 := tm_bd (ckO 0 0 (rowsL x)) 241 (by omega)
    generalize (ckO 0 0 (rowsL x)).tmod 241 = c at *
    obtain ⟨m, e, b1, b2, _⟩ := tq c 100 (by omega)
    have w : IntKind.i64.wrap (c.tdiv 100) = c.tdiv 100 := wr (by have := tq_small (n := c) (p := 100) (by omega) (B := 241) (by omega) (by omega); omega) (by have := tq_small (n := c) (p := 100) (by omega) (B := 241) (by omega) (by omega); omega)
    have l1 := d (IntKind.i64.wrap (c.tdiv 100)) (by rw [w]; omega) (by rw [w]; omega)
    have h3 := tm_bd (IntKind.i64.wrap (c.tdiv 10)) 10 (by omega)
    have l2 := d ((IntKind.i64.wrap (c.tdiv 10)).tmod 10) (by omega) (by omega)
    have h4 := tm_bd c 10 (by omega)
    have l3 := d (c.tmod 10) (by omega) (by omega)
    simp only [List.length_append, List.length_cons, List.length_nil]
    omega
  have hh : (rowT [116, 97, 98, 108, 101] x.2.2.1 x.2.1).length ≤ 11 := by
    unfold rowT
    simp only [List.length_append, List.length_cons, List.length_nil]
    omega
  have hf : (((rowsL x).map (· ++ [10])).flatten).length ≤ 12 + 18 * x.1.length := by
    unfold rowsL
    rw [List.map_cons, List.flatten_cons, List.length_append, List.length_append]
    simp only [List.length_cons, List.length_nil]
    omega
  unfold txt
  simp only [List.length_append, List.length_cons, List.length_nil]
  omega
end Go.V
