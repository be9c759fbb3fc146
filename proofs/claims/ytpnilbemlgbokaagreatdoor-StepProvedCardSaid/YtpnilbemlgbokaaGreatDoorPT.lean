/- A part of the proof of a law of the step table. -/
import Derived.Test.YtpnilbemlgbokaaGreatDoorPK
set_option linter.all false
namespace Go.V
open Go.Proofs
abbrev TABL := (List (Int × (Int × Unit))) × (Int × (Int × Unit))
def T3 (x : TABL) (p r q : Int) (o : List Int) (a b c : Int) : Prop :=
  (o.length : Int) = x.1.length ∧ ∀ j : Int, 0 ≤ j → j < x.1.length → List.getD o j.toNat 0 = if j = p then a else if j = r then b else if j = q then c else (sp' x j).1
section
variable (x : TABL) (ht : Tb x) (k : List Int) {p r q : Int} (h0 : 0 ≤ p) (hpr : p < r) (hrq : r < q) (hq : q < x.1.length)
def Wr (x : TABL) (p r q a b c : Int) : Prop := fig x.2.1 p q r a c - b > x.2.2.1 ∨ b - fig x.2.1 p q r a c > x.2.2.1
include h0 hpr hrq hq in
theorem t3_a {o : List Int} {a b c a' : Int} (h : T3 x p r q o a b c) : T3 x p r q (o.set p.toNat a') a' b c := by
  refine ⟨by simpa using h.1, fun j j1 j2 => ?_⟩
  rw [getD_set0 _ _ _ _ (by have := h.1; omega), h.2 j j1 j2]
  by_cases e : j = p
  · rw [if_pos (by omega), if_pos e]
  · rw [if_neg (by omega), if_neg e, if_neg e]
include h0 hpr hrq hq in
theorem t3_b {o : List Int} {a b c b' : Int} (h : T3 x p r q o a b c) : T3 x p r q (o.set r.toNat b') a b' c := by
  refine ⟨by simpa using h.1, fun j j1 j2 => ?_⟩
  rw [getD_set0 _ _ _ _ (by have := h.1; omega), h.2 j j1 j2]
  by_cases e : j = r
  · rw [if_pos (by omega), if_neg (by omega), if_pos e]
  · rw [if_neg (by omega), if_neg e, if_neg e]
include h0 hpr hrq hq in
theorem t3_c {o : List Int} {a b c c' : Int} (h : T3 x p r q o a b c) : T3 x p r q (o.set q.toNat c') a b c' := by
  refine ⟨by simpa using h.1, fun j j1 j2 => ?_⟩
  rw [getD_set0 _ _ _ _ (by have := h.1; omega), h.2 j j1 j2]
  by_cases e : j = q
  · rw [if_pos (by omega), if_neg (by omega), if_neg (by omega), if_pos e]
  · rw [if_neg (by omega), if_neg e, if_neg e]
include h0 hpr hrq hq in
theorem t3_get {o : List Int} {a b c : Int} (h : T3 x p r q o a b c) : List.getD o p.toNat 0 = a ∧ List.getD o r.toNat 0 = b ∧ List.getD o q.toNat 0 = c := by
  refine ⟨?_, ?_, ?_⟩
  · rw [h.2 p h0 (by omega), if_pos rfl]
  · rw [h.2 r (by omega) (by omega), if_neg (by omega), if_pos rfl]
  · rw [h.2 q (by omega) hq, if_neg (by omega), if_neg (by omega), if_pos rfl]
include ht h0 hpr hrq hq in
theorem a95_2 (n0 n1 : Nat) (a b fl fh ol oh tlo : Int) (ha : -9999 ≤ a ∧ a ≤ 9999) (hb : -9999 ≤ b ∧ b ≤ 9999) : ∀ (m f : Nat) (c : Int) (o : List Int), m < f → -9999 ≤ c → c + m = (sp' x q).2.1 + 1 → T3 x p r q o a b c →
    (∃ o' c', L95_2 fuel n0 n1 f ((x, (k, ((), ()))), (r, ())) x.1 x.2.1 x.2.2.1 k () p q fl fh ol oh tlo (sp' x q).2.1 o = .ret o' ∧ T3 x p r q o' a b c' ∧ c ≤ c' ∧ c' ≤ (sp' x q).2.1 ∧ Wr x p r q a b c' ∧ ∀ z, c ≤ z → z < c' → ¬ Wr x p r q a b z) ∨
    (∃ o', L95_2 fuel n0 n1 f ((x, (k, ((), ()))), (r, ())) x.1 x.2.1 x.2.2.1 k () p q fl fh ol oh tlo (sp' x q).2.1 o = L95_1 fuel n0 n1 ((x, (k, ((), ()))), (r, ())) x.1 x.2.1 x.2.2.1 k () p q fl fh ol oh tlo (sp' x q).2.1 o' ∧ T3 x p r q o' a (b + 1) ((sp' x q).2.1 + 1) ∧ ∀ z, c ≤ z → z ≤ (sp' x q).2.1 → ¬ Wr x p r q a b z) := by
  have tl := ht.1
  have sq := sp_small ht (show 0 ≤ q by omega) hq
  intro m
  induction m with
  | zero =>
    intro f c o hf hc he h3
    obtain ⟨f, rfl⟩ := succ_of hf
    obtain ⟨g1, g2, g3⟩ := t3_get x h0 hpr hrq hq h3
    have hl := h3.1
    right
    refine ⟨o.set r.toNat (b + 1), ?_, ?_, fun z z1 z2 => by omega⟩
    · rw [L95_2_succ]
      simp (disch := omega) only [inbT (show 0 ≤ q by omega) (show q < o.length by omega), inbT (show 0 ≤ r by omega) (show r < o.length by omega), cond_true, dT (show q.toNat < o.length by omega), dT (show r.toNat < o.length by omega), g3, g2, dF (show ¬ c ≤ (sp' x q).2.1 by omega), wr]
    · have e : (sp' x q).2.1 + 1 = c := by omega
      rw [e]
      exact t3_b x h0 hpr hrq hq h3
  | succ m ih =>
    intro f c o hf hc he h3
    obtain ⟨f, rfl⟩ := succ_of hf
    obtain ⟨g1, g2, g3⟩ := t3_get x h0 hpr hrq hq h3
    have hl := h3.1
    have e125 : f125 (((x.1, (x.2.1, (x.2.2.1, ()))), (k, ((), ()))), ((p, (q, ())), (a, (c, (r, ()))))) = .ret (fig x.2.1 p q r a c) :=
      f125_at x k ht.2.1 h0 (by omega) (by omega) (by omega) (by omega) (by omega) (by omega) (by omega) (by omega)
    have bd := fig_bd (r := x.2.1) (b := p) (a := q) (row := r) (one := a) (oth := c) (lo := -9999) (hi := 9999) (by omega) (by omega) (by omega) (by omega) (by omega) (by omega) (by omega)
    have w1 : IntKind.i64.wrap (b - fig x.2.1 p q r a c) = b - fig x.2.1 p q r a c := wr (by omega) (by omega)
    have w2 : IntKind.i64.wrap (fig x.2.1 p q r a c - b) = fig x.2.1 p q r a c - b := wr (by omega) (by omega)
    have w3 : IntKind.i64.wrap (c + 1) = c + 1 := wr (by omega) (by omega)
    rw [L95_2_succ]
    simp only [inbT (show 0 ≤ q by omega) (show q < o.length by omega), inbT (show 0 ≤ r by omega) (show r < o.length by omega), inbT (show 0 ≤ p by omega) (show p < o.length by omega), cond_true, dT (show q.toNat < o.length by omega), dT (show r.toNat < o.length by omega), dT (show p.toNat < o.length by omega), g1, g2, g3, dT (show c ≤ (sp' x q).2.1 by omega), e125, w1, w2, w3]
    by_cases hw : (if b - fig x.2.1 p q r a c > fig x.2.1 p q r a c - b then b - fig x.2.1 p q r a c else fig x.2.1 p q r a c - b) > x.2.2.1
    · left
      simp only [dT hw]
      refine ⟨o, c, rfl, h3, by omega, by omega, ?_, fun z z1 z2 => by omega⟩
      unfold Wr
      split at hw <;> omega
    · have nw : ¬ Wr x p r q a b c := by
        unfold Wr
        split at hw <;> omega
      simp only [dF hw]
      rcases ih f (c + 1) (o.set q.toNat (c + 1)) (by omega) (by omega) (by omega) (t3_c x h0 hpr hrq hq h3) with ⟨o', c', i1, i2, i3, i4, i5, i6⟩ | ⟨o', i1, i2, i3⟩
      · left
        refine ⟨o', c', i1, i2, by omega, i4, i5, fun z z1 z2 => ?_⟩
        by_cases e : z = c
        · subst e; exact nw
        · exact i6 z (by omega) z2
      · right
        refine ⟨o', i1, i2, fun z z1 z2 => ?_⟩
        by_cases e : z = c
        · subst e; exact nw
        · exact i3 z (by omega) z2
include ht h0 hpr hrq hq in
theorem a95_1 (n0 : Nat) (a fl fh ol : Int) (ha : -9999 ≤ a ∧ a ≤ 9999) : ∀ (m f : Nat) (b c : Int) (o : List Int), m < f → -9999 ≤ b → b + m = (sp' x r).2.1 + 1 → T3 x p r q o a b c →
    (∃ o' b' c', L95_1 fuel n0 f ((x, (k, ((), ()))), (r, ())) x.1 x.2.1 x.2.2.1 k () p q fl fh ol (sp' x r).2.1 (sp' x q).1 (sp' x q).2.1 o = .ret o' ∧ T3 x p r q o' a b' c' ∧ b ≤ b' ∧ b' ≤ (sp' x r).2.1 ∧ (sp' x q).1 ≤ c' ∧ c' ≤ (sp' x q).2.1 ∧ Wr x p r q a b' c' ∧
      ∀ y z, b ≤ y → (sp' x q).1 ≤ z → z ≤ (sp' x q).2.1 → (y < b' ∨ y = b' ∧ z < c') → ¬ Wr x p r q a y z) ∨
    (∃ o' c', L95_1 fuel n0 f ((x, (k, ((), ()))), (r, ())) x.1 x.2.1 x.2.2.1 k () p q fl fh ol (sp' x r).2.1 (sp' x q).1 (sp' x q).2.1 o = L95_0 fuel n0 ((x, (k, ((), ()))), (r, ())) x.1 x.2.1 x.2.2.1 k () p q fl fh ol (sp' x r).2.1 (sp' x q).1 (sp' x q).2.1 o' ∧ T3 x p r q o' (a + 1) ((sp' x r).2.1 + 1) c' ∧
      ∀ y z, b ≤ y → y ≤ (sp' x r).2.1 → (sp' x q).1 ≤ z → z ≤ (sp' x q).2.1 → ¬ Wr x p r q a y z) := by
  have hfb := fuel_big
  have tl := ht.1
  have sq := sp_small ht (show 0 ≤ q by omega) hq
  have sr := sp_small ht (show 0 ≤ r by omega) (show r < x.1.length by omega)
  intro m
  induction m with
  | zero =>
    intro f b c o hf hb he h3
    obtain ⟨f, rfl⟩ := succ_of hf
    obtain ⟨g1, g2, g3⟩ := t3_get x h0 hpr hrq hq h3
    have hl := h3.1
    right
    refine ⟨o.set p.toNat (a + 1), c, ?_, ?_, fun y z y1 y2 => by omega⟩
    · rw [L95_1_succ]
      simp (disch := omega) only [inbT (show 0 ≤ r by omega) (show r < o.length by omega), inbT (show 0 ≤ p by omega) (show p < o.length by omega), cond_true, dT (show r.toNat < o.length by omega), dT (show p.toNat < o.length by omega), g2, g1, dF (show ¬ b ≤ (sp' x r).2.1 by omega), wr]
    · have e : (sp' x r).2.1 + 1 = b := by omega
      rw [e]
      exact t3_a x h0 hpr hrq hq h3
  | succ m ih =>
    intro f b c o hf hb he h3
    obtain ⟨f, rfl⟩ := succ_of hf
    obtain ⟨g1, g2, g3⟩ := t3_get x h0 hpr hrq hq h3
    have hl := h3.1
    rw [L95_1_succ]
    simp only [inbT (show 0 ≤ r by omega) (show r < o.length by omega), inbT (show 0 ≤ q by omega) (show q < o.length by omega), cond_true, dT (show r.toNat < o.length by omega), dT (show q.toNat < o.length by omega), g2, dT (show b ≤ (sp' x r).2.1 by omega)]
    rcases a95_2 x ht k h0 hpr hrq hq n0 f a b fl fh ol (sp' x r).2.1 (sp' x q).1 ha (by omega) ((sp' x q).2.1 - (sp' x q).1 + 1).toNat fuel (sp' x q).1 (o.set q.toNat (sp' x q).1) (by omega) (by omega) (by omega) (t3_c x h0 hpr hrq hq h3) with ⟨o', c', i1, i2, i3, i4, i5, i6⟩ | ⟨o', i1, i2, i3⟩
    · left
      refine ⟨o', b, c', i1, i2, by omega, by omega, i3, i4, i5, fun y z y1 z1 z2 hlt => ?_⟩
      rcases hlt with h | ⟨rfl, h⟩
      · omega
      · exact i6 z z1 h
    · rw [i1]
      rcases ih f (b + 1) _ o' (by omega) (by omega) (by omega) i2 with ⟨o2, b2, c2, j1, j2, j3, j4, j5, j6, j7, j8⟩ | ⟨o2, c2, j1, j2, j3⟩
      · left
        refine ⟨o2, b2, c2, j1, j2, by omega, j4, j5, j6, j7, fun y z y1 z1 z2 hlt => ?_⟩
        by_cases e : y = b
        · subst e; exact i3 z z1 z2
        · exact j8 y z (by omega) z1 z2 hlt
      · right
        refine ⟨o2, c2, j1, j2, fun y z y1 y2 z1 z2 => ?_⟩
        by_cases e : y = b
        · subst e; exact i3 z z1 z2
        · exact j3 y z (by omega) y2 z1 z2
include ht h0 hpr hrq hq in
theorem a95_0 : ∀ (m f : Nat) (a b c : Int) (o : List Int), m < f → (sp' x p).1 ≤ a → a + m = (sp' x p).2.1 + 1 → T3 x p r q o a b c →
    (∃ u v w, a ≤ u ∧ u ≤ (sp' x p).2.1 ∧ (sp' x r).1 ≤ v ∧ v ≤ (sp' x r).2.1 ∧ (sp' x q).1 ≤ w ∧ w ≤ (sp' x q).2.1 ∧ Wr x p r q u v w) →
    ∃ o' a' b' c', L95_0 fuel f ((x, (k, ((), ()))), (r, ())) x.1 x.2.1 x.2.2.1 k () p q (sp' x p).1 (sp' x p).2.1 (sp' x r).1 (sp' x r).2.1 (sp' x q).1 (sp' x q).2.1 o = .ret o' ∧ T3 x p r q o' a' b' c' ∧ (a ≤ a' ∧ a' ≤ (sp' x p).2.1) ∧ ((sp' x r).1 ≤ b' ∧ b' ≤ (sp' x r).2.1) ∧ ((sp' x q).1 ≤ c' ∧ c' ≤ (sp' x q).2.1) ∧ Wr x p r q a' b' c' ∧
      ∀ u y z, a ≤ u → (sp' x r).1 ≤ y → y ≤ (sp' x r).2.1 → (sp' x q).1 ≤ z → z ≤ (sp' x q).2.1 → (u < a' ∨ u = a' ∧ (y < b' ∨ y = b' ∧ z < c')) → ¬ Wr x p r q u y z := by
  have hfb := fuel_big
  have tl := ht.1
  have sp1 := sp_small ht h0 (show p < x.1.length by omega)
  have sr := sp_small ht (show 0 ≤ r by omega) (show r < x.1.length by omega)
  intro m
  induction m with
  | zero =>
    intro f a b c o hf ha he h3 ⟨u, v, w, u1, u2, _⟩
    omega
  | succ m ih =>
    intro f a b c o hf ha he h3 hex
    obtain ⟨f, rfl⟩ := succ_of hf
    obtain ⟨g1, g2, g3⟩ := t3_get x h0 hpr hrq hq h3
    have hl := h3.1
    rw [L95_0_succ]
    simp only [inbT (show 0 ≤ r by omega) (show r < o.length by omega), inbT (show 0 ≤ p by omega) (show p < o.length by omega), cond_true, dT (show r.toNat < o.length by omega), dT (show p.toNat < o.length by omega), g1, dT (show a ≤ (sp' x p).2.1 by omega)]
    rcases a95_1 x ht k h0 hpr hrq hq f a (sp' x p).1 (sp' x p).2.1 (sp' x r).1 (by omega) ((sp' x r).2.1 - (sp' x r).1 + 1).toNat fuel (sp' x r).1 c (o.set r.toNat (sp' x r).1) (by omega) (by omega) (by omega) (t3_b x h0 hpr hrq hq h3) with ⟨o', b', c', i1, i2, i3, i4, i5, i6, i7, i8⟩ | ⟨o', c', i1, i2, i3⟩
    · refine ⟨o', a, b', c', i1, i2, ⟨by omega, by omega⟩, ⟨i3, i4⟩, ⟨i5, i6⟩, i7, fun u y z u1 y1 y2 z1 z2 hlt => ?_⟩
      rcases hlt with h | ⟨rfl, h⟩
      · omega
      · exact i8 y z y1 z1 z2 h
    · rw [i1]
      obtain ⟨u, v, w, u1, u2, v1, v2, w1, w2, hw⟩ := hex
      have hne : u ≠ a := fun e => by subst e; exact i3 v w v1 v2 w1 w2 hw
      obtain ⟨o2, a2, b2, c2, j1, j2, j3, j4, j5, j6, j7⟩ := ih f (a + 1) _ _ o' (by omega) (by omega) (by omega) i2 ⟨u, v, w, by omega, u2, v1, v2, w1, w2, hw⟩
      refine ⟨o2, a2, b2, c2, j1, j2, ⟨by omega, j3.2⟩, j4, j5, j6, fun u' y z u1' y1 y2 z1 z2 hlt => ?_⟩
      by_cases e : u' = a
      · subst e; exact i3 y z y1 y2 z1 z2
      · exact j7 u' y z (by omega) y1 y2 z1 z2 hlt
end
end Go.V
