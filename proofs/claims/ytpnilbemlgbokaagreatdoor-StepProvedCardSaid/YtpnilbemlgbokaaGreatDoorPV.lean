/- A part of the proof of a law of the step table. -/
import Derived.Test.YtpnilbemlgbokaaGreatDoorPU
set_option linter.all false
namespace Go.V
open Go.Proofs
theorem bl_first : ∀ (i : Nat) (l m : List Int), i < l.length → l.length = m.length → (∀ j : Nat, j < i → List.getD l j 0 = List.getD m j 0) → List.getD l i 0 < List.getD m i 0 → bl l m
  | _, [], _, h, _, _, _ => by simp at h
  | _, _ :: _, [], _, h, _, _ => by simp at h
  | 0, a :: l, b :: m, _, _, _, h => .inl h
  | i + 1, a :: l, b :: m, h1, h2, h3, h4 => .inr ⟨h3 0 (by omega), bl_first i l m (by simpa using h1) (by simpa using h2) (fun j hj => h3 (j + 1) (by omega)) h4⟩
theorem getD_setS (l : List (Int × (Int × Unit))) (i j : Nat) (v : Int × (Int × Unit)) (hi : i < l.length) : List.getD (l.set i v) j ((0 : Int), ((0 : Int), ())) = if i = j then v else List.getD l j ((0 : Int), ((0 : Int), ())) := by
  rw [List.getD_eq_getElem?_getD, List.getD_eq_getElem?_getD, List.getElem?_set]
  split
  · next h => subst h; simp [hi]
  · rfl
def Nar (x : TABL) (p : List Int) (r : Int) (t : List (Int × (Int × Unit))) : Prop :=
  t.length = x.1.length ∧ ∀ j : Int, 0 ≤ j → j < x.1.length → List.getD t j.toNat ((0 : Int), ((0 : Int), ())) = if j < r then (List.getD p j.toNat 0, (List.getD p j.toNat 0, ())) else sp' x j
section
variable {x : TABL} (ht : Tb x) {k : List Int} (hk : Kp k x.1.length) {p : List Int} (hp : Pf x k p)
include ht hp in
theorem nar_set {r n : Int} {t : List (Int × (Int × Unit))} (h : Nar x p r t) (r0 : 0 ≤ r) (r1 : r < x.1.length) (n0 : (sp' x r).1 ≤ n) (n1 : n ≤ (sp' x r).2.1) :
    Tb (t.set r.toNat (n, (n, ())), x.2) ∧ (∀ v, Tru (t.set r.toNat (n, (n, ())), x.2) v ↔ Tru x v ∧ (∀ j : Int, 0 ≤ j → j < r → List.getD v j.toNat 0 = List.getD p j.toNat 0) ∧ List.getD v r.toNat 0 = n) := by
  have tl := ht.1
  have hpt := hp.1.1
  have get : ∀ j : Int, 0 ≤ j → j < x.1.length → List.getD (t.set r.toNat (n, (n, ()))) j.toNat ((0 : Int), ((0 : Int), ())) = if j < r then (List.getD p j.toNat 0, (List.getD p j.toNat 0, ())) else if j = r then (n, (n, ())) else sp' x j := fun j j1 j2 => by
    rw [getD_setS _ _ _ _ (by have := h.1; omega), h.2 j j1 j2]
    by_cases e : j = r
    · rw [if_pos (by omega), if_neg (by omega), if_pos e]
    · rw [if_neg (by omega), if_neg e]
  have len : (t.set r.toNat (n, (n, ()))).length = x.1.length := by simpa using h.1
  constructor
  · refine ⟨by dsimp only; omega, ht.2.1, ht.2.2.1, fun j j1 j2 => ?_⟩
    dsimp only at j2 ⊢
    have s := sp_small ht j1 (show j < x.1.length by omega)
    have pj := tr_small ht hpt j1 (show j < x.1.length by omega)
    rw [get j j1 (by omega)]
    unfold Sp
    split
    · dsimp only; omega
    · split
      · next e => subst e; dsimp only; omega
      · exact ht.2.2.2 j j1 (by omega)
  · intro v
    constructor
    · rintro ⟨v1, v2⟩
      dsimp only at v1 v2
      refine ⟨⟨by omega, fun j j1 j2 => ?_⟩, fun j j1 j2 => ?_, ?_⟩
      · have a := v2 j j1 (by omega)
        rw [get j j1 j2] at a
        have pj := hpt.2 j j1 j2
        split at a
        · dsimp only at a; omega
        · split at a
          · next e =>
            subst e; dsimp only at a
            have n0' : (List.getD x.1 j.toNat ((0 : Int), ((0 : Int), ()))).1 ≤ n := n0
            have n1' : n ≤ (List.getD x.1 j.toNat ((0 : Int), ((0 : Int), ()))).2.1 := n1
            omega
          · exact a
      · have a := v2 j j1 (by omega)
        rw [get j j1 (by omega), if_pos j2] at a
        dsimp only at a; omega
      · have a := v2 r r0 (by omega)
        rw [get r r0 r1, if_neg (by omega), if_pos rfl] at a
        dsimp only at a; omega
    · rintro ⟨⟨v1, v2⟩, v3, v4⟩
      refine ⟨by dsimp only; omega, fun j j1 j2 => ?_⟩
      dsimp only at j2 ⊢
      rw [get j j1 (by omega)]
      split
      · next e => rw [v3 j j1 e]; exact ⟨Int.le_refl _, Int.le_refl _⟩
      · split
        · next e => subst e; rw [v4]; exact ⟨Int.le_refl _, Int.le_refl _⟩
        · exact v2 j j1 (by omega)
theorem ok_same {x y : TABL} (h : x.2 = y.2) {k u : List Int} {j : Int} : Ok x k u j ↔ Ok y k u j := by
  unfold Ok; rw [h]
include ht hk hp in
theorem nar_dub {r n : Int} {t : List (Int × (Int × Unit))} (h : Nar x p r t) (r0 : 0 ≤ r) (r1 : r < x.1.length) (n0 : (sp' x r).1 ≤ n) (n1 : n ≤ List.getD p r.toNat 0) :
    dub (t.set r.toNat (n, (n, ())), x.2) k = [] ↔ n < List.getD p r.toNat 0 := by
  have tl := ht.1
  have hpt := hp.1.1
  have pr := hpt.2 r r0 r1
  have pr2 : List.getD p r.toNat 0 ≤ (sp' x r).2.1 := pr.2
  obtain ⟨q1, q2⟩ := nar_set ht hp h r0 r1 n0 (by omega)
  have len : (t.set r.toNat (n, (n, ()))).length = x.1.length := by simpa using h.1
  have hk' : Kp k ((t.set r.toNat (n, (n, ())), x.2) : TABL).1.length := by dsimp only; rw [len]; exact hk
  constructor
  · intro hd
    refine Classical.byContradiction fun c => ?_
    have e : n = List.getD p r.toNat 0 := by omega
    have hw : Wt (t.set r.toNat (n, (n, ())), x.2) k p := by
      obtain ⟨_, j, j1, j2, j3⟩ := hp.1
      exact ⟨(q2 p).2 ⟨hpt, fun _ _ _ => rfl, e.symm⟩, j, j1, by dsimp only; omega, fun o => j3 ((ok_same rfl).1 o)⟩
    obtain ⟨j, j1, _⟩ := wt_dub q1 hk' hw
    rw [hd] at j1; cases j1
  · intro c
    cases hd : dub (t.set r.toNat (n, (n, ())), x.2) k with
    | nil => rfl
    | cons j l =>
      exfalso
      obtain ⟨v, hv, i, i1, i2, i3⟩ := wt_of_dub q1 hk' (show j ∈ dub (t.set r.toNat (n, (n, ())), x.2) k by rw [hd]; simp)
      obtain ⟨v1, v2, v3⟩ := (q2 v).1 hv
      have hwv : Wt x k v := ⟨v1, i, i1, by dsimp only at i2; omega, fun o => i3 ((ok_same rfl).1 o)⟩
      have vl := v1.1
      have pl := hpt.1
      have hb : bl v p := bl_first r.toNat v p (by omega) (by omega) (fun j hj => by
        have := v2 j (by omega) (by omega)
        rw [Int.toNat_natCast] at this; exact this) (by rw [v3]; exact c)
      rcases hp.2 v hwv with e | e
      · subst e; exact bl_irrefl _ hb
      · exact bl_asymm _ _ e hb
include ht hk hp in
theorem ref_loop : ∀ (m f : Nat) (r : Int) (t : List (Int × (Int × Unit))), m < f → 0 ≤ r → r + m = x.1.length → Nar x p r t →
    L44_0 fuel f (x, (k, ())) t x.2.1 x.2.2.1 r = .ret (p, (true, ())) := by
  have hfb := fuel_big
  have kl := kp_len hk
  have tl := ht.1
  have hpt := hp.1.1
  have pl := hpt.1
  intro m
  induction m with
  | zero =>
    intro f r t hf h0 he h
    obtain ⟨f, rfl⟩ := succ_of hf
    have hl := h.1
    rw [L44_0_succ]; try delta lenI
    obtain ⟨l, e1, e2⟩ := f101_at (t, (x.2.1, (x.2.2.1, ()))) (by dsimp only; omega)
    have e3 : l = p := by
      have l1 := e2.1
      dsimp only at l1
      refine ext0 (by omega) fun j j1 j2 => ?_
      rw [e2.2 j j1 (by dsimp only; omega)]
      show (List.getD t j.toNat ((0 : Int), ((0 : Int), ()))).1 = _
      rw [h.2 j j1 (by omega), if_pos (by omega)]
    simp only [dF (show ¬ r < (t.length : Int) by omega), e1, e3]
  | succ m ih =>
    intro f r t hf h0 he h
    obtain ⟨f, rfl⟩ := succ_of hf
    have hl := h.1
    have pr := hpt.2 r h0 (by omega)
    have pr1 : (sp' x r).1 ≤ List.getD p r.toNat 0 := pr.1
    have pr2 : List.getD p r.toNat 0 ≤ (sp' x r).2.1 := pr.2
    have psm := tr_small ht hpt h0 (show r < x.1.length by omega)
    have ssm := sp_small ht h0 (show r < x.1.length by omega)
    have e62 : ∀ n : Int, f62 ((t, (x.2.1, (x.2.2.1, ()))), (r, (n, ()))) = .ret (t.set r.toNat (n, (n, ())), x.2) := fun n => by
      unfold f62 F62
      simp only [fitsT (show ([] : List (Int × (Int × Unit))).length + t.length < 1000000 by simp; omega), inbT h0 (show r < t.length by omega), dT (show r.toNat < t.length by omega), cond_true]
    have inner : ∀ (d g : Nat) (n : Int), d < g → (sp' x r).1 ≤ n → n + d = List.getD p r.toNat 0 → L44_1 fuel f g (x, (k, ())) t x.2.1 x.2.2.1 r n = L44_0 fuel f (x, (k, ())) (t.set r.toNat (List.getD p r.toNat 0, (List.getD p r.toNat 0, ()))) x.2.1 x.2.2.1 (r + 1) := by
      intro d
      induction d with
      | zero =>
        intro g n hg hn he'
        obtain ⟨g, rfl⟩ := succ_of hg
        have e : n = List.getD p r.toNat 0 := by omega
        subst e
        obtain ⟨q1, _⟩ := nar_set ht hp h h0 (by omega) pr1 pr2
        have hd := nar_dub ht hk hp h h0 (by omega) pr1 (Int.le_refl _)
        have hne : dub (t.set r.toNat (List.getD p r.toNat 0, (List.getD p r.toNat 0, ())), x.2) k ≠ [] := fun q => by have := hd.1 q; omega
        have hlen : ((dub (t.set r.toNat (List.getD p r.toNat 0, (List.getD p r.toNat 0, ())), x.2) k).length : Int) ≠ 0 := by have := ne_len.1 hne; omega
        have hk' : Kp k ((t.set r.toNat (List.getD p r.toNat 0, (List.getD p r.toNat 0, ())), x.2) : TABL).1.length := by dsimp only; rw [List.length_set, hl]; exact hk
        rw [L44_1_succ]; try delta lenI
        simp only [e62, f40_at _ q1 hk' (show k.length ≤ 1000 by omega), eF hlen, wr (show -9223372036854775808 ≤ r + 1 by omega) (show r + 1 ≤ 9223372036854775807 by omega)]
      | succ d ihd =>
        intro g n hg hn he'
        obtain ⟨g, rfl⟩ := succ_of hg
        obtain ⟨q1, _⟩ := nar_set ht hp h h0 (by omega) hn (show n ≤ (sp' x r).2.1 by omega)
        have hd := (nar_dub ht hk hp h h0 (by omega) hn (show n ≤ List.getD p r.toNat 0 by omega)).2 (by omega)
        have hk' : Kp k ((t.set r.toNat (n, (n, ())), x.2) : TABL).1.length := by dsimp only; rw [List.length_set, hl]; exact hk
        rw [L44_1_succ]; try delta lenI
        simp only [e62, f40_at _ q1 hk' (show k.length ≤ 1000 by omega), hd, wr (show -9223372036854775808 ≤ n + 1 by omega) (show n + 1 ≤ 9223372036854775807 by omega)]
        exact ihd g (n + 1) (by omega) (by omega) (by omega)
    have lowr : (List.getD t r.toNat ((0 : Int), ((0 : Int), ()))).1 = (sp' x r).1 := by rw [h.2 r h0 (by omega), if_neg (by omega)]
    rw [L44_0_succ]; try delta lenI
    simp only [dT (show r < (t.length : Int) by omega), inbT h0 (show r < t.length by omega), cond_true, lowr]
    rw [inner (List.getD p r.toNat 0 - (sp' x r).1).toNat fuel (sp' x r).1 (by omega) (by omega) (by omega)]
    refine ih f (r + 1) _ (by omega) (by omega) (by omega) ⟨by simpa using hl, fun j j1 j2 => ?_⟩
    rw [getD_setS _ _ _ _ (by omega), h.2 j j1 j2]
    by_cases e : j = r
    · rw [if_pos (by omega), if_pos (by omega), e]
    · by_cases c : j < r
      · rw [if_neg (by omega), if_pos c, if_pos (by omega)]
      · rw [if_neg (by omega), if_neg c, if_neg (by omega)]
end
theorem f44_at (x : TABL) (ht : Tb x) {k : List Int} (hk : Kp k x.1.length) :
    (dub x k = [] → f44 (x, (k, ())) = .ret ([], (false, ()))) ∧ (∀ p, Pf x k p → f44 (x, (k, ())) = .ret (p, (true, ()))) := by
  have hfb := fuel_big
  have kl := kp_len hk
  have tl := ht.1
  constructor
  · intro hd
    unfold f44 F44; try delta lenI
    simp only [f40_at x ht hk (show k.length ≤ 1000 by omega), hd]
    rfl
  · intro p hp
    obtain ⟨j, j1, _⟩ := wt_dub ht hk hp.1
    have hlen : ((dub x k).length : Int) ≠ 0 := by
      have := List.length_pos_of_mem j1
      omega
    unfold f44 F44; try delta lenI
    simp only [f40_at x ht hk (show k.length ≤ 1000 by omega), eF hlen]
    exact ref_loop ht hk hp x.1.length fuel 0 x.1 (by omega) (by omega) (by omega) ⟨rfl, fun j j1 j2 => by rw [if_neg (by omega)]⟩
theorem least_at (x : TABL) (ht : Tb x) {k : List Int} (hk : Kp k x.1.length) : ∃ n, f45 (x, (k, ())) = .ret n ∧ f43 (x, (k, ())) = .ret (n, (0, ())) ∧ 0 ≤ n ∧ ∀ z : Int, 0 ≤ z → (n ≤ z ↔ ∀ j : Int, 0 ≤ j → j < x.1.length → Fa x k j ≤ z) := by
  have hfb := fuel_big
  have kl := kp_len hk
  have tl := ht.1
  obtain ⟨b1, a1, a2⟩ := f77_at x
  obtain rfl : b1 = true := a2.2 ht
  obtain ⟨b2, a3, a4⟩ := f78_at x k (by omega) (by omega)
  obtain rfl : b2 = true := a4.2 hk
  have key : ∀ (m f : Nat) (n i : Int), m < f → 0 ≤ n → 0 ≤ i → i + m = x.1.length →
      ∃ n', L45_0 fuel f (x, (k, ())) n i = .ret n' ∧ L43_0 fuel f (x, (k, ())) x.1 x.2.1 x.2.2.1 k () n i = .ret (n', (0, ())) ∧ n ≤ n' ∧ ∀ z : Int, n' ≤ z ↔ n ≤ z ∧ ∀ j : Int, i ≤ j → j < x.1.length → Fa x k j ≤ z := by
    intro m
    induction m with
    | zero =>
      intro f n i hf hn hi he
      obtain ⟨f, rfl⟩ := succ_of hf
      rw [L45_0_succ, L43_0_succ]; try delta lenI
      simp only [dF (show ¬ i < (x.1.length : Int) by omega)]
      exact ⟨n, rfl, rfl, Int.le_refl _, fun z => ⟨fun h => ⟨h, fun j j1 j2 => by omega⟩, fun h => h.1⟩⟩
    | succ m ih =>
      intro f n i hf hn hi he
      obtain ⟨f, rfl⟩ := succ_of hf
      rw [L45_0_succ, L43_0_succ]; try delta lenI
      have i2 : i < x.1.length := by omega
      obtain ⟨e1, e2, e3⟩ := aro x hk (by omega) hi (show i ≤ (x.1.length : Int) - 1 by omega)
      obtain ⟨c1, c2, c3, c4, c5, c6⟩ := ar_range hk e3
      have e2' : f99 (((x.1, (x.2.1, (x.2.2.1, ()))), (k, ((), ()))), (i, ())) = .ret (bef k i, (aft k i, ())) := e2
      have w : IntKind.i64.wrap (i + 1) = i + 1 := wr (by omega) (by omega)
      simp only [dT i2, f94_at x ht hk (show k.length ≤ 1000 by omega) hi i2, e2', w]
      have step : ∀ n2 : Int, 0 ≤ n2 → n ≤ n2 → (∀ z : Int, n2 ≤ z ↔ n ≤ z ∧ Fa x k i ≤ z) → ∃ n', L45_0 fuel f (x, (k, ())) n2 (i + 1) = .ret n' ∧ L43_0 fuel f (x, (k, ())) x.1 x.2.1 x.2.2.1 k () n2 (i + 1) = .ret (n', (0, ())) ∧ n ≤ n' ∧ ∀ z : Int, n' ≤ z ↔ n ≤ z ∧ ∀ j : Int, i ≤ j → j < x.1.length → Fa x k j ≤ z := by
        intro n2 h1 h2 h3
        obtain ⟨n', q1, q2, q3, q4⟩ := ih f n2 (i + 1) (by omega) h1 (by omega) (by omega)
        refine ⟨n', q1, q2, by omega, fun z => (q4 z).trans ?_⟩
        rw [h3]
        constructor
        · rintro ⟨⟨z1, z2⟩, z3⟩
          refine ⟨z1, fun j j1 j2 => ?_⟩
          by_cases e : j = i
          · subst e; exact z2
          · exact z3 j (by omega) j2
        · rintro ⟨z1, z2⟩
          exact ⟨⟨z1, z2 i (by omega) (by omega)⟩, fun j j1 j2 => z2 j (by omega) j2⟩
      by_cases h : bef k i < aft k i
      · have e4 : f100 (((x.1, (x.2.1, (x.2.2.1, ()))), (k, ((), ()))), ((bef k i, (aft k i, ())), (i, ()))) = .ret (Of x (bef k i) (aft k i) i) := f100_at x k ht c1 c3 c4 h (by omega)
        have e5 : Fa x k i = Of x (bef k i) (aft k i) i := by unfold Fa; rw [if_neg (by omega)]
        rw [← e5] at e4
        simp only [dT h, e4]
        refine step _ (by split <;> omega) (by split <;> omega) fun z => ?_
        split <;> constructor <;> intro q <;> omega
      · have e5 : Fa x k i = 0 := by unfold Fa; rw [if_pos (by omega)]
        simp only [dF h]
        have e6 : (if Fa x k i > n then Fa x k i else n) = n := by rw [if_neg (by omega)]
        rw [e6]
        exact step n hn (Int.le_refl _) fun z => ⟨fun q => ⟨q, by omega⟩, fun q => q.1⟩
  obtain ⟨n, q1, q2, q3, q4⟩ := key x.1.length fuel 0 0 (by omega) (by omega) (by omega) (by omega)
  refine ⟨n, q1, ?_, q3, fun z hz => (q4 z).trans ⟨fun h => h.2, fun h => ⟨hz, h⟩⟩⟩
  unfold f43 F43
  simp only [a1, a3, Bool.not_true]
  exact q2
end Go.V
