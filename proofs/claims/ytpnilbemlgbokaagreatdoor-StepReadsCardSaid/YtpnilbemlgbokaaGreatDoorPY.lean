/- A part of the proof of a law of the step table. -/
import Derived.Test.YtpnilbemlgbokaaGreatDoorPX
set_option linter.all false
namespace Go.V
open Go.Proofs
def fd : Int → List UInt8 → Int
  | n, [] => n
  | n, b :: bs => fd (10 * n + (((b.toNat : Nat) : Int) - 48)) bs
theorem fd_app (b : UInt8) : ∀ (l : List UInt8) (n : Int), fd n (l ++ [b]) = 10 * fd n l + (((b.toNat : Nat) : Int) - 48)
  | [], _ => rfl
  | a :: l, n => by rw [List.cons_append]; exact fd_app b l _
theorem digit_nat {d : Nat} (h : d < 10) : (UInt8.ofNat (48 + d)).toNat = 48 + d := by
  rw [UInt8.toNat_ofNat']
  omega
theorem dec_digits : ∀ (k u : Nat), u ≤ k → (∀ b ∈ Lib.decDigits u, 48 ≤ b.toNat ∧ b.toNat ≤ 57) ∧ fd 0 (Lib.decDigits u) = u ∧ Lib.decDigits u ≠ [] := by
  intro k
  induction k with
  | zero =>
    intro u hu
    have : u = 0 := by omega
    subst this
    rw [dec_small (by omega)]
    exact ⟨fun b hb => by rw [List.mem_singleton.1 hb]; decide, rfl, by simp⟩
  | succ k ih =>
    intro u hu
    by_cases c : u < 10
    · rw [dec_small c]
      refine ⟨fun b hb => ?_, ?_, by simp⟩
      · rw [List.mem_singleton.1 hb, digit_nat c]; omega
      · unfold fd fd
        rw [digit_nat c]; omega
    · obtain ⟨h1, h2, h3⟩ := ih (u / 10) (by omega)
      rw [dec_big c]
      refine ⟨fun b hb => ?_, ?_, by simp⟩
      · rcases List.mem_append.1 hb with hb | hb
        · exact h1 b hb
        · rw [List.mem_singleton.1 hb, digit_nat (by omega)]; omega
      · rw [fd_app, h2, digit_nat (by omega)]; omega
theorem itoa_bytes (n : Int) : ∀ b ∈ Lib.itoa n, b = 45 ∨ (48 ≤ b.toNat ∧ b.toNat ≤ 57) := by
  intro b hb
  unfold Lib.itoa at hb
  split at hb
  · rcases List.mem_cons.1 hb with rfl | hb
    · exact .inl rfl
    · exact .inr ((dec_digits _ _ (Nat.le_refl _)).1 b hb)
  · exact .inr ((dec_digits _ _ (Nat.le_refl _)).1 b hb)
theorem itoa_no {n : Int} {c : UInt8} (h : c = 32 ∨ c = 10) : c ∉ Lib.itoa n := by
  intro hc
  rcases itoa_bytes n c hc with e | e
  · subst e; rcases h with h | h <;> cases h
  · rcases h with rfl | rfl <;> simp at e
theorem rune_at {w : List UInt8} {p : Nat} (h : p < w.length) (ha : (w.getD p 0).toNat < 128) : runeAt w p = (((w.getD p 0).toNat : Nat) : Int) ∧ posAt w p = p + 1 := by
  have e : w.getD p 0 = w[p] := by rw [List.getD_eq_getElem?_getD, List.getElem?_eq_getElem h]; rfl
  have hs : p < (⟨⟨w⟩⟩ : ByteArray).size := h
  have hd := decode_ascii ⟨⟨w⟩⟩ p hs (by show (w[p]).toNat < 128; rw [← e]; exact ha)
  have hd' : Utf8.decode ⟨⟨w⟩⟩ p = ((w[p]).toNat, 1) := hd
  unfold runeAt posAt
  rw [hd', dT h, e]
  exact ⟨rfl, rfl⟩
theorem wr32 {x : Int} (h1 : -2147483648 ≤ x) (h2 : x ≤ 2147483647) : IntKind.i32.wrap x = x := by
  unfold IntKind.wrap
  simp only [IntKind.bits, IntKind.signed]
  simp
  split <;> omega
theorem fd_bd : ∀ (l : List UInt8) (n : Int), (∀ b ∈ l, 48 ≤ b.toNat ∧ b.toNat ≤ 57) → 0 ≤ n → n ≤ fd n l ∧ 0 ≤ fd n l
  | [], n, _, h => ⟨Int.le_refl _, h⟩
  | b :: l, n, hb, h => by
    have q := hb b (by simp)
    have := fd_bd l (10 * n + (((b.toNat : Nat) : Int) - 48)) (fun c hc => hb c (by simp [hc])) (by omega)
    unfold fd
    omega
theorem need_true (s : List UInt8) : f153 (true, (s, ())) = .ret () := rfl
theorem given_at (u : Nat) (hu : u ≤ 9999) : f154 (Lib.decDigits u, ()) = .ret (u : Int) := by
  have hfb := fuel_big
  obtain ⟨h1, h2, h3⟩ := dec_digits u u (Nat.le_refl _)
  have hl : (Lib.decDigits u).length ≤ 4 := dec_len 3 u (by omega)
  have e149 : f149 ((u : Int), ()) = .ret (Lib.decDigits u) := by rw [f149_at _ (by omega) (by omega), itoa_pos]
  generalize Lib.decDigits u = w at *
  have key : ∀ (m f : Nat) (n : Int) (p : Nat), m < f → p + m = w.length → 0 ≤ n → fd n (w.drop p) = u → L154_0 fuel f (w, ()) n p = .ret (u : Int) := by
    intro m
    induction m with
    | zero =>
      intro f n p hf he hn hv
      obtain ⟨f, rfl⟩ := succ_of hf
      have ed : w.drop p = [] := List.drop_eq_nil_of_le (by omega)
      rw [ed] at hv
      have hv' : n = u := hv
      subst hv'
      rw [L154_0_succ]; try delta lenI
      have hne : (w != ([] : List UInt8)) = true := by simp [h3]
      simp only [dF (show ¬ p < w.length by omega), hne, e149, beq_self_eq_true, need_true]
    | succ m ih =>
      intro f n p hf he hn hv
      obtain ⟨f, rfl⟩ := succ_of hf
      have hp : p < w.length := by omega
      have eb : w.getD p 0 = w[p] := by rw [List.getD_eq_getElem?_getD, List.getElem?_eq_getElem hp]; rfl
      have hb : w.getD p 0 ∈ w := by rw [eb]; exact List.getElem_mem hp
      have hd := h1 _ hb
      obtain ⟨r1, r2⟩ := rune_at hp (by omega)
      rw [List.drop_eq_getElem_cons hp] at hv
      have hv' : fd (10 * n + (((w.getD p 0).toNat : Nat) - 48)) (w.drop (p + 1)) = u := by rw [eb]; exact hv
      have hbd := fd_bd (w.drop (p + 1)) (10 * n + (((w.getD p 0).toNat : Nat) - 48)) (fun b hb => h1 b (List.mem_of_mem_drop hb)) (by omega)
      have w1 : IntKind.i32.wrap ((((w.getD p 0).toNat : Nat) : Int) - 48) = (((w.getD p 0).toNat : Nat) : Int) - 48 := wr32 (by omega) (by omega)
      rw [L154_0_succ]; try delta lenI
      simp only [dT hp, cond_true, r1, r2, dT (show (((w.getD p 0).toNat : Nat) : Int) ≥ 48 by omega), dT (show (((w.getD p 0).toNat : Nat) : Int) ≤ 57 by omega), dT (show (w.length : Int) ≤ 4 by omega), need_true, w1, wr (show -9223372036854775808 ≤ (((w.getD p 0).toNat : Nat) : Int) - 48 by omega) (show (((w.getD p 0).toNat : Nat) : Int) - 48 ≤ 9223372036854775807 by omega), wr (show -9223372036854775808 ≤ 10 * n by omega) (show 10 * n ≤ 9223372036854775807 by omega), wr (show -9223372036854775808 ≤ 10 * n + ((((w.getD p 0).toNat : Nat) : Int) - 48) by omega) (show 10 * n + ((((w.getD p 0).toNat : Nat) : Int) - 48) ≤ 9223372036854775807 by omega)]
      exact ih f _ (p + 1) (by omega) (by omega) (by omega) hv'
  unfold f154 F154
  exact key w.length fuel 0 0 (by omega) (by omega) (by omega) (by simpa using h2)
theorem prefix_at (w : List UInt8) : f170 (w, ([45], ())) = (match w with | 45 :: r => .ret (r, (true, ())) | _ => .ret (w, (false, ()))) := by
  unfold f170 F170 f178 F178 f189 F189; try delta lenI
  cases w with
  | nil =>
    simp only [dF (show ¬ (([] : List UInt8).length : Int) ≥ (([45] : List UInt8).length : Int) by decide), Bool.not_false]
  | cons b r =>
    have h1 : (((b :: r).length : Nat) : Int) ≥ (([45] : List UInt8).length : Int) := by simp; omega
    have h2 : cutOk (0 : Int) (([45] : List UInt8).length : Int) ((b :: r).length : Int) = true := by
      unfold cutOk; simp; omega
    have h3 : cut (b :: r) (0 : Int) (([45] : List UInt8).length : Int) = [b] := by unfold cut; simp
    have h4 : cutOk (([45] : List UInt8).length : Int) ((b :: r).length : Int) ((b :: r).length : Int) = true := by
      unfold cutOk; simp; omega
    have h5 : cut (b :: r) (([45] : List UInt8).length : Int) ((b :: r).length : Int) = r := by
      unfold cut; simp
    simp only [dT h1, h2, h3, cond_true, h4, h5]
    by_cases c : b = 45
    · subst c; rfl
    · have e : (([b] : List UInt8) == [45]) = false := by simp [c]
      simp only [e, Bool.not_false]
      split
      · next h => injection h with h _; exact absurd h c
      · rfl
theorem signed_at (n : Int) (h1 : -9999 ≤ n) (h2 : n ≤ 9999) : f155 (Lib.itoa n, ()) = .ret n := by
  unfold f155 F155
  by_cases c : 0 ≤ n
  · have e : n = ((n.toNat : Nat) : Int) := by omega
    have hb := (dec_digits n.toNat n.toNat (Nat.le_refl _)).1
    have e2 : Lib.itoa n = Lib.decDigits n.toNat := by unfold Lib.itoa; rw [if_neg (by omega)]
    have ep : f170 (Lib.decDigits n.toNat, ([45], ())) = .ret (Lib.decDigits n.toNat, (false, ())) := by
      rw [prefix_at]
      cases hw : Lib.decDigits n.toNat with
      | nil => rfl
      | cons b r =>
        rw [hw] at hb
        have := hb b (by simp)
        split
        · next h => injection h with h _; subst h; simp at this
        · rfl
    rw [e2]
    simp only [ep, given_at n.toNat (by omega)]
    rw [← e]
  · have e : n = -((n.natAbs : Nat) : Int) := by omega
    have e2 : Lib.itoa n = 45 :: Lib.decDigits n.natAbs := by unfold Lib.itoa; rw [if_pos (by omega)]
    have ep : f170 (45 :: Lib.decDigits n.natAbs, ([45], ())) = .ret (Lib.decDigits n.natAbs, (true, ())) := by rw [prefix_at]; rfl
    rw [e2]
    simp only [ep, given_at n.natAbs (by omega), dT (show ((n.natAbs : Nat) : Int) > 0 by omega), need_true]
    rw [wr (by omega) (by omega)]
    congr 1
    omega
theorem row_split (w : List UInt8) (a b : Int) (hw : (32 : UInt8) ∉ w) : Lib.split (rowT w a b) [32] = [w, Lib.itoa a, Lib.itoa b] := by
  unfold rowT
  have e : w ++ 32 :: Lib.itoa a ++ 32 :: Lib.itoa b = w ++ 32 :: (Lib.itoa a ++ 32 :: Lib.itoa b) := by simp
  rw [e, split_cons hw, split_cons (itoa_no (.inl rfl)), split_last (itoa_no (.inl rfl))]
theorem row_nl (w : List UInt8) (a b : Int) (hw : (10 : UInt8) ∉ w) : (10 : UInt8) ∉ rowT w a b := by
  unfold rowT
  intro h
  rcases List.mem_append.1 h with h | h
  · rcases List.mem_append.1 h with h | h
    · exact hw h
    · rcases List.mem_cons.1 h with h | h
      · cases h
      · exact itoa_no (.inr rfl) h
  · rcases List.mem_cons.1 h with h | h
    · cases h
    · exact itoa_no (.inr rfl) h
theorem end_nl (c : Int) : (10 : UInt8) ∉ endT c := by
  unfold endT
  intro h
  rcases List.mem_append.1 h with h | h
  · rcases List.mem_append.1 h with h | h
    · rcases List.mem_append.1 h with h | h
      · revert h; decide
      · exact itoa_no (.inr rfl) h
    · exact itoa_no (.inr rfl) h
  · exact itoa_no (.inr rfl) h
def Rb (x : TABX) : Prop := x.1.length ≤ 900 ∧ (0 ≤ x.2.1 ∧ x.2.1 ≤ 9999) ∧ (0 ≤ x.2.2.1 ∧ x.2.2.1 ≤ 9999) ∧ ∀ j : Int, 0 ≤ j → j < x.1.length → (-9999 ≤ (sp' x j).1 ∧ (sp' x j).1 ≤ 9999) ∧ (-9999 ≤ (sp' x j).2.1 ∧ (sp' x j).2.1 ≤ 9999)
theorem sb_rb {x : TABX} (h : Rb x) : Sb x := by
  obtain ⟨h1, h2, h3, h4⟩ := h
  refine ⟨h1, by omega, by omega, fun j j1 j2 => ?_⟩
  have := h4 j j1 j2
  omega
theorem rb_tb {x : TABX} (ht : Tb x) : Rb x := by
  have tl := ht.1
  have a := ht.2.1
  have b := ht.2.2.1
  refine ⟨by omega, by omega, by omega, fun j j1 j2 => ?_⟩
  have := sp_small ht j1 j2
  omega
theorem txt_split (x : TABX) : Lib.split (txt (rowsL x)) [10] = rowsL x ++ [endT (ckO 0 0 (rowsL x)), []] := by
  refine split_rows 10 _ (end_nl _) (rowsL x) fun r hr => ?_
  unfold rowsL at hr
  rcases List.mem_cons.1 hr with rfl | hr
  · exact row_nl _ _ _ (by decide)
  · obtain ⟨s, _, rfl⟩ := List.mem_map.1 hr
    exact row_nl _ _ _ (by decide)
theorem txt_len {x : TABX} (h : Sb x) : (txt (rowsL x)).length < 1000000 := by
  have rs := rowsL_rs h
  have fl := flat_len (rowsL x) rs.2
  obtain ⟨_, _, _, l1, l2, l3⟩ := parts (ckO 0 0 (rowsL x))
  have := rs.1
  unfold txt endT
  simp only [List.length_append, List.length_cons, List.length_nil]
  omega
theorem f117_at (x : TABX) (h : Rb x) : f117 (txt (rowsL x), ()) = .ret x := by
  have hfb := fuel_big
  have sb := sb_rb h
  have tlen := txt_len sb
  obtain ⟨h1, h2, h3, h4⟩ := h
  have es := f152_at (txt (rowsL x)) 10 tlen
  rw [txt_split] at es
  generalize hR : rowsL x ++ [endT (ckO 0 0 (rowsL x)), []] = R at es
  have Rl : (R.length : Int) = x.1.length + 3 := by rw [← hR]; unfold rowsL; simp; omega
  have R0 : List.getD R (0 : Int).toNat ([] : List UInt8) = rowT [116, 97, 98, 108, 101] x.2.2.1 x.2.1 := by rw [← hR]; rfl
  have wl : IntKind.i64.wrap ((R.length : Int) - 2) = x.1.length + 1 := by rw [wr (by omega) (by omega)]; omega
  have hcut : cut R (1 : Int) ((x.1.length : Int) + 1) = x.1.map vT := by
    rw [← hR]
    unfold cut rowsL
    have e1 : ((x.1.length : Int) + 1).toNat - (1 : Int).toNat = x.1.length := by omega
    rw [e1]
    show ((x.1.map vT) ++ [endT _, []]).take x.1.length = _
    rw [List.take_left' (by simp)]
  have hcok : cutOk (1 : Int) ((x.1.length : Int) + 1) (R.length : Int) = true := by
    unfold cutOk
    simp only [dT (show (0 : Int) ≤ 1 by omega), dT (show (1 : Int) ≤ (x.1.length : Int) + 1 by omega), dT (show (x.1.length : Int) + 1 ≤ R.length by omega), Bool.and_self]
  have e0 := f152_at (rowT [116, 97, 98, 108, 101] x.2.2.1 x.2.1) 32 (by have := rowT_len (w := [116, 97, 98, 108, 101]) (a := x.2.2.1) (b := x.2.1) (by simp) (by omega) (by omega); omega)
  rw [row_split _ _ _ (by decide)] at e0
  have ga : f154 (Lib.itoa x.2.2.1, ()) = .ret x.2.2.1 := by
    have e : x.2.2.1 = ((x.2.2.1.toNat : Nat) : Int) := by omega
    have e2 : Lib.itoa x.2.2.1 = Lib.decDigits x.2.2.1.toNat := by unfold Lib.itoa; rw [if_neg (by omega)]
    rw [e2, given_at _ (by omega), ← e]
  have gb : f154 (Lib.itoa x.2.1, ()) = .ret x.2.1 := by
    have e : x.2.1 = ((x.2.1.toNat : Nat) : Int) := by omega
    have e2 : Lib.itoa x.2.1 = Lib.decDigits x.2.1.toNat := by unfold Lib.itoa; rw [if_neg (by omega)]
    rw [e2, given_at _ (by omega), ← e]
  have ml : (x.1.map vT).length = x.1.length := by simp
  have key : ∀ (m f : Nat) (i : Int) (t : List (Int × (Int × Unit))), m < f → 0 ≤ i → i + m = x.1.length → t = x.1.take i.toNat → L117_0 fuel f (txt (rowsL x), ()) R [] 0 0 t x.2.1 x.2.2.1 i = .ret x := by
    intro m
    induction m with
    | zero =>
      intro f i t hf hi he ht
      obtain ⟨f, rfl⟩ := succ_of hf
      have et : x.1.take i.toNat = x.1 := List.take_of_length_le (by omega)
      rw [et] at ht
      subst ht
      rw [L117_0_succ]; try delta lenI
      have e114 : f114 ((x.1, (x.2.1, (x.2.2.1, ()))), ()) = .ret (txt (rowsL x)) := f114_at x sb
      simp only [wl, hcut, ml, dF (show ¬ i < (x.1.length : Int) by omega), e114, beq_self_eq_true, need_true]
    | succ m ih =>
      intro f i t hf hi he ht
      obtain ⟨f, rfl⟩ := succ_of hf
      have hi2 : i < x.1.length := by omega
      have hi3 : i.toNat < x.1.length := by omega
      obtain ⟨q1, q2⟩ := h4 i hi hi2
      have eg : List.getD (x.1.map vT) i.toNat ([] : List UInt8) = vT (sp' x i) := by
        unfold sp'
        rw [List.getD_eq_getElem?_getD, List.getElem?_map, List.getElem?_eq_getElem hi3, List.getD_eq_getElem?_getD, List.getElem?_eq_getElem hi3]
        rfl
      have er := f152_at (vT (sp' x i)) 32 (by have := rowT_len (w := [118, 97, 108, 117, 101]) (a := (sp' x i).1) (b := (sp' x i).2.1) (by simp) (by omega) (by omega); unfold vT; omega)
      have er2 : Lib.split (vT (sp' x i)) [32] = [[118, 97, 108, 117, 101], Lib.itoa (sp' x i).1, Lib.itoa (sp' x i).2.1] := row_split _ _ _ (by decide)
      rw [er2] at er
      have tl : t.length ≤ 900 := by rw [ht]; simp; omega
      rw [L117_0_succ]; try delta lenI
      have c1 : (((([[118, 97, 108, 117, 101], Lib.itoa (sp' x i).1, Lib.itoa (sp' x i).2.1] : List (List UInt8)).length : Nat) : Int) == 3) = true := rfl
      have c2 : inb (1 : Int) ([[118, 97, 108, 117, 101], Lib.itoa (sp' x i).1, Lib.itoa (sp' x i).2.1] : List (List UInt8)).length = true := rfl
      have c3 : inb (2 : Int) ([[118, 97, 108, 117, 101], Lib.itoa (sp' x i).1, Lib.itoa (sp' x i).2.1] : List (List UInt8)).length = true := rfl
      have c4 : List.getD ([[118, 97, 108, 117, 101], Lib.itoa (sp' x i).1, Lib.itoa (sp' x i).2.1] : List (List UInt8)) (1 : Int).toNat ([] : List UInt8) = Lib.itoa (sp' x i).1 := rfl
      have c5 : List.getD ([[118, 97, 108, 117, 101], Lib.itoa (sp' x i).1, Lib.itoa (sp' x i).2.1] : List (List UInt8)) (2 : Int).toNat ([] : List UInt8) = Lib.itoa (sp' x i).2.1 := rfl
      simp only [wl, hcut, ml, dT hi2, inbT hi hi2, cond_true, eg, er, c1, need_true, c2, c3, c4, c5, signed_at _ q1.1 q1.2, signed_at _ q2.1 q2.2, fitsT (show t.length + [((sp' x i).1, ((sp' x i).2.1, ()))].length < 1000000 by simp; omega), wr (show -9223372036854775808 ≤ i + 1 by omega) (show i + 1 ≤ 9223372036854775807 by omega)]
      exact ih f (i + 1) _ (by omega) (by omega) (by omega) (by rw [take_one x hi hi2, ht])
  have d1 : (((([[116, 97, 98, 108, 101], Lib.itoa x.2.2.1, Lib.itoa x.2.1] : List (List UInt8)).length : Nat) : Int) == 3) = true := rfl
  have d2 : inb (1 : Int) ([[116, 97, 98, 108, 101], Lib.itoa x.2.2.1, Lib.itoa x.2.1] : List (List UInt8)).length = true := rfl
  have d3 : inb (2 : Int) ([[116, 97, 98, 108, 101], Lib.itoa x.2.2.1, Lib.itoa x.2.1] : List (List UInt8)).length = true := rfl
  have d4 : List.getD ([[116, 97, 98, 108, 101], Lib.itoa x.2.2.1, Lib.itoa x.2.1] : List (List UInt8)) (1 : Int).toNat ([] : List UInt8) = Lib.itoa x.2.2.1 := rfl
  have d5 : List.getD ([[116, 97, 98, 108, 101], Lib.itoa x.2.2.1, Lib.itoa x.2.1] : List (List UInt8)) (2 : Int).toNat ([] : List UInt8) = Lib.itoa x.2.1 := rfl
  unfold f117 F117; try delta lenI
  simp only [es, dT (show (R.length : Int) ≥ 3 by omega), need_true, inbT (show (0 : Int) ≤ 0 by omega) (show (0 : Int) < R.length by omega), cond_true, R0, e0, d1, d2, d3, d4, d5, ga, gb, wl, hcok]
  exact key x.1.length fuel 0 [] (by omega) (by omega) (by omega) rfl
theorem txt_short {x : TABX} (ht : Tb x) : (txt (rowsL x)).length ≤ 270 := by
  have tl := ht.1
  have to := ht.2.2.1
  have tr := ht.2.1
  have il : ∀ n : Int, -9999 ≤ n → n ≤ 9999 → (Lib.itoa n).length ≤ 5 := fun n a b => by
    unfold Lib.itoa
    split
    · have := dec_len 3 n.natAbs (by omega); rw [List.length_cons]; omega
    · have := dec_len 3 n.toNat (by omega); omega
  have ir : (Lib.itoa x.2.1).length ≤ 1 := by
    unfold Lib.itoa
    rw [if_neg (by omega)]
    have := dec_len 0 x.2.1.toNat (by omega); omega
  have io : (Lib.itoa x.2.2.1).length ≤ 3 := by
    unfold Lib.itoa
    rw [if_neg (by omega)]
    have := dec_len 2 x.2.2.1.toNat (by omega); omega
  have fv : ∀ l : List (Int × (Int × Unit)), (∀ s ∈ l, Sp s) → (((l.map vT).map (· ++ [10])).flatten).length ≤ 18 * l.length := by
    intro l
    induction l with
    | nil => intro _; simp
    | cons s l ih =>
      intro hs
      have := ih fun q hq => hs q (by simp [hq])
      have q := hs s (by simp)
      unfold Sp at q
      have l1 := il s.1 (by omega) (by omega)
      have l2 := il s.2.1 (by omega) (by omega)
      have lv : (vT s).length ≤ 17 := by
        unfold vT rowT
        simp only [List.length_append, List.length_cons, List.length_nil]
        omega
      simp only [List.map_cons, List.flatten_cons, List.length_append, List.length_cons, List.length_nil] at *
      omega
  have hv := fv x.1 fun s hs => by
    obtain ⟨i, hi, e⟩ := List.mem_iff_getElem.1 hs
    have := ht.2.2.2 (i : Int) (by omega) (by omega)
    rw [Int.toNat_natCast, List.getD_eq_getElem?_getD, List.getElem?_eq_getElem hi] at this
    rw [← e]; exact this
  have hend : (endT (ckO 0 0 (rowsL x))).length ≤ 13 := by
    unfold endT
    have d : ∀ n : Int, -10 < n → n < 10 → (Lib.itoa n).length ≤ 2 := fun n a b => by
      unfold Lib.itoa
      split
      · have := dec_len 0 n.natAbs (by omega); rw [List.length_cons]; omega
      · have := dec_len 0 n.toNat (by omega); omega
    have h1 := tm_bd (ckO 0 0 (rowsL x)) 241 (by omega)
    generalize (ckO 0 0 (rowsL x)).tmod 241 = c at *
    obtain ⟨m, e, b1, b2, _⟩ := tq c 100 (by omega)
    have w : IntKind.i64.wrap (c.tdiv 100) = c.tdiv 100 := wr (by have := tq_small (n := c) (p := 100) (by omega) (B := 241) (by omega) (by omega); omega) (by have := tq_small (n := c) (p := 100) (by omega) (B := 241) (by omega) (by omega); omega)
    have l1 := d (IntKind.i64.wrap (c.tdiv 100)) (by rw [w]; omega) (by rw [w]; omega)
    have h3 := tm_bd (IntKind.i64.wrap (c.tdiv 10)) 10 (by omega)
    have l2 := d ((IntKind.i64.wrap (c.tdiv 10)).tmod 10) (by omega) (by omega)
    have h4 := tm_bd c 10 (by omega)
    have l3 := d (c.tmod 10) (by omega) (by omega)
    simp only [List.length_append, List.length_cons, List.length_nil]
    omega
  have hh : (rowT [116, 97, 98, 108, 101] x.2.2.1 x.2.1).length ≤ 11 := by
    unfold rowT
    simp only [List.length_append, List.length_cons, List.length_nil]
    omega
  have hf : (((rowsL x).map (· ++ [10])).flatten).length ≤ 12 + 18 * x.1.length := by
    unfold rowsL
    rw [List.map_cons, List.flatten_cons, List.length_append, List.length_append]
    simp only [List.length_cons, List.length_nil]
    omega
  unfold txt
  simp only [List.length_append, List.length_cons, List.length_nil]
  omega
end Go.V
