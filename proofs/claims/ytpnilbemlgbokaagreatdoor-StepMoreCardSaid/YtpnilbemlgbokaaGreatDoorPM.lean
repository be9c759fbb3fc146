/- A part of the proof of a law of the step table. -/
import Derived.Test.YtpnilbemlgbokaaGreatDoorPL
set_option linter.all false
namespace Go.V
open Go.Proofs
def Ch (x : (List (Int × (Int × Unit))) × (Int × (Int × Unit))) (n : Int) : Int → List Int → Prop
  | a, [] => a = n - 1
  | a, t :: ts => a < t ∧ su x a t = true ∧ Ch x n t ts
theorem ch_le {x : (List (Int × (Int × Unit))) × (Int × (Int × Unit))} {n : Int} : ∀ (ts : List Int) (a : Int), Ch x n a ts → a ≤ n - 1
  | [], a, h => by have : a = n - 1 := h; omega
  | t :: ts, a, h => by have := ch_le ts t h.2.2; have := h.1; omega
theorem path_ch {x : (List (Int × (Int × Unit))) × (Int × (Int × Unit))} {n : Int} : ∀ (ts now : List Int), Path (PP x) n now ts ↔ Ch x n (lst now) ts
  | [], now => Iff.rfl
  | t :: ts, now => by
    have h := path_ch (x := x) (n := n) ts (now ++ [t])
    rw [lst_snoc] at h
    constructor
    · rintro ⟨_, q1, _, q2, q3⟩
      exact ⟨q1, q2, h.1 q3⟩
    · rintro ⟨q1, q2, q3⟩
      have := ch_le ts t q3
      exact ⟨by omega, q1, by omega, q2, h.2 q3⟩
theorem getD_cons (a : Int) (l : List Int) {j : Int} (h : 1 ≤ j) : List.getD (a :: l) j.toNat 0 = List.getD l (j - 1).toNat 0 := by
  have : j.toNat = (j - 1).toNat + 1 := by omega
  rw [this]; rfl
theorem ch_iff {x : (List (Int × (Int × Unit))) × (Int × (Int × Unit))} {n : Int} : ∀ (ts : List Int) (a : Int), Ch x n a ts ↔ List.getD (a :: ts) (((a :: ts).length : Int) - 1).toNat 0 = n - 1 ∧
    ∀ j : Int, 1 ≤ j → j < (a :: ts).length → List.getD (a :: ts) (j - 1).toNat 0 < List.getD (a :: ts) j.toNat 0 ∧ su x (List.getD (a :: ts) (j - 1).toNat 0) (List.getD (a :: ts) j.toNat 0) = true
  | [], a => by
    constructor
    · intro h; exact ⟨h, fun j j1 j2 => by simp at j2; omega⟩
    · intro h; exact h.1
  | t :: ts, a => by
    have ih := ch_iff (x := x) (n := n) ts t
    have e1 : (((a :: t :: ts).length : Int) - 1).toNat = (((t :: ts).length : Int) - 1).toNat + 1 := by simp
    have e2 : List.getD (a :: t :: ts) (((a :: t :: ts).length : Int) - 1).toNat 0 = List.getD (t :: ts) (((t :: ts).length : Int) - 1).toNat 0 := by rw [e1]; rfl
    rw [e2]
    constructor
    · rintro ⟨q1, q2, q3⟩
      obtain ⟨i1, i2⟩ := ih.1 q3
      refine ⟨i1, fun j j1 j2 => ?_⟩
      by_cases e : j = 1
      · subst e; exact ⟨q1, q2⟩
      · rw [getD_cons _ _ (show 1 ≤ j - 1 by omega), getD_cons _ _ j1]
        exact i2 (j - 1) (by omega) (by simp only [List.length_cons] at j2 ⊢; omega)
    · rintro ⟨q1, q2⟩
      have h1 := q2 1 (by omega) (by simp only [List.length_cons]; omega)
      refine ⟨h1.1, h1.2, ih.2 ⟨q1, fun j j1 j2 => ?_⟩⟩
      have := q2 (j + 1) (by omega) (by simp only [List.length_cons] at j2 ⊢; omega)
      rw [getD_cons _ _ (show 1 ≤ j + 1 by omega)] at this
      have e3 : j + 1 - 1 = j := by omega
      rw [e3, getD_cons _ _ j1] at this
      exact this
theorem dub_nil {x : (List (Int × (Int × Unit))) × (Int × (Int × Unit))} {k : List Int} (ht : Tb x) (hk : Kp k x.1.length) :
    dub x k = [] ↔ ∀ j : Int, 1 ≤ j → j < k.length → su x (List.getD k (j - 1).toNat 0) (List.getD k j.toNat 0) = true := by
  have tl := ht.1
  have kl := kp_len hk
  constructor
  · intro h j j1 j2
    refine su_iff.2 fun r r1 r2 => ?_
    have p1 := kp_range hk (show 0 ≤ j - 1 by omega) (show j - 1 < k.length by omega)
    have p2 := kp_range hk (show 0 ≤ j by omega) j2
    have e : j - 1 + 1 = j := by omega
    have hm : r ∉ k := by
      intro hm
      obtain ⟨q, q1, q2, rfl⟩ := mem_getD hm
      by_cases c : q ≤ j - 1
      · have := kp_le hk q1 c (by omega); omega
      · have := kp_le hk (show 0 ≤ j by omega) (show j ≤ q by omega) q2; omega
    have fb := (fi_between (r := x.2.1) (u := []) (w := j - 1) (row := r) hk (by omega) (by omega) (by omega) (by omega) (by rw [e]; omega)).2 hm
    rw [e] at fb
    have hd : r ∉ dub x k := by rw [h]; simp
    have : ¬ x.2.2.1 < Fa x k r := fun q => hd (dub_mem.2 ⟨by omega, by omega, q⟩)
    unfold Fa at this
    rw [fb.1, fb.2, if_neg (by omega)] at this
    omega
  · intro h
    have : ∀ r, r ∉ dub x k := by
      intro r hr
      obtain ⟨r1, r2, r3⟩ := dub_mem.1 hr
      have to := ht.2.2.1
      by_cases hm : r ∈ k
      · have := fa_kept (x := x) hk (by omega) hm; omega
      · obtain ⟨i, b, _, _, e2⟩ := at_of hk (by omega) r1 (show r ≤ (x.1.length : Int) - 1 by omega)
        obtain ⟨i0, i1, lo, hi⟩ := e2 hm
        have l1 := lo (i - 1) (by omega) (by omega)
        have l2 := hi i (by omega) i1
        have e : i - 1 + 1 = i := by omega
        have fb := (fi_between (r := x.2.1) (u := []) (w := i - 1) (row := r) hk (by omega) (by omega) (by omega) (by omega) (by rw [e]; omega)).2 hm
        rw [e] at fb
        have s := su_iff.1 (h i (by omega) i1) r l1 l2
        unfold Fa at r3
        rw [fb.1, fb.2, if_neg (by omega)] at r3
        omega
    cases hd : dub x k with
    | nil => rfl
    | cons a l => exact absurd (by rw [hd]; simp) (this a)
theorem ch_kp {x : (List (Int × (Int × Unit))) × (Int × (Int × Unit))} (ht : Tb x) (ts : List Int) : Ch x x.1.length 0 ts ↔ Kp (0 :: ts) x.1.length ∧ dub x (0 :: ts) = [] := by
  have tl := ht.1
  rw [ch_iff]
  constructor
  · rintro ⟨h1, h2⟩
    have hk : Kp (0 :: ts) x.1.length := by
      refine ⟨?_, rfl, h1, fun j j1 j2 => (h2 j j1 j2).1⟩
      cases ts with
      | nil => have : (0 : Int) = (x.1.length : Int) - 1 := h1
               omega
      | cons _ _ => simp
    exact ⟨hk, (dub_nil ht hk).2 fun j j1 j2 => (h2 j j1 j2).2⟩
  · rintro ⟨hk, hd⟩
    exact ⟨hk.2.2.1, fun j j1 j2 => ⟨hk.2.2.2 j j1 j2, (dub_nil ht hk).1 hd j j1 j2⟩⟩
theorem AL_mem {x : (List (Int × (Int × Unit))) × (Int × (Int × Unit))} (ht : Tb x) (k : List Int) : k ∈ AL x ↔ Kp k x.1.length ∧ dub x k = [] := by
  have t1 := ht.1
  have hm : ∀ ts, ts ∈ tl (PP x) x.1.length (x.1.length + 1) [0] ↔ Kp (0 :: ts) x.1.length ∧ dub x (0 :: ts) = [] := fun ts => by
    rw [tl_mem _ _ _ (by show (0 : Int) ≤ _; omega) (by show _ - (0 : Int) < _; omega), path_ch, ← ch_kp ht]
    rfl
  unfold AL
  rw [List.mem_map]
  constructor
  · rintro ⟨ts, h1, rfl⟩
    exact (hm ts).1 h1
  · intro h
    cases k with
    | nil => have := h.1.1; simp at this
    | cons a ts =>
      have ha : a = 0 := h.1.2.1
      subst ha
      exact ⟨ts, (hm ts).2 h, rfl⟩
theorem AL_full {x : (List (Int × (Int × Unit))) × (Int × (Int × Unit))} (ht : Tb x) : ∃ l, f52 (x, (1, ())) = .ret l ∧ l ∈ AL x ∧ (∀ j : Int, 0 ≤ j → j < x.1.length → j ∈ l) := by
  obtain ⟨l, e1, e2, e3, e4⟩ := keeps x ht (s := 1) (by omega) (by omega)
  have kl := kp_len e3
  have tl := ht.1
  refine ⟨l, e2, (AL_mem ht l).2 ⟨e3, ?_⟩, e4 rfl⟩
  cases h : dub x l with
  | nil => rfl
  | cons a l' =>
    have hm : a ∈ dub x l := by rw [h]; simp
    obtain ⟨q1, q2, q3⟩ := dub_mem.1 hm
    have := fa_kept (x := x) e3 (by omega) (e4 rfl a q1 q2)
    have := ht.2.2.1
    omega
theorem best_loop (l : List (List Int)) (hl : l.length ≤ 100000) (hs : l.Pairwise bl) : ∀ (m f : Nat) (out : List Int) (i : Int), m < f → 0 ≤ i → i + m = l.length →
    (0 < i → out ∈ l.take i.toNat ∧ ∀ y ∈ l.take i.toNat, out.length ≤ y.length ∧ (y.length = out.length → out = y ∨ bl out y)) →
    ∃ o, L96a_0 fuel f (l, ((Value.func (.func 105) #[] #[]), ())) out i = .ret (o, (decide ((l.length : Int) > 0), ())) ∧ (0 < l.length → o ∈ l ∧ ∀ y ∈ l, o.length ≤ y.length ∧ (y.length = o.length → o = y ∨ bl o y)) := by
  intro m
  induction m with
  | zero =>
    intro f out i hf hi he ho
    obtain ⟨f, rfl⟩ := succ_of hf
    rw [L96a_0_succ]; try delta lenI
    simp (disch := omega) only [dF (show ¬ i < (l.length : Int) by omega)]
    refine ⟨out, rfl, fun h => ?_⟩
    have e : l.take i.toNat = l := List.take_of_length_le (by omega)
    have := ho (by omega)
    rw [e] at this
    exact this
  | succ m ih =>
    intro f out i hf hi he ho
    obtain ⟨f, rfl⟩ := succ_of hf
    rw [L96a_0_succ]; try delta lenI
    have hi' : i.toNat < l.length := by omega
    have eg : List.getD l i.toNat ([] : List Int) = l[i.toNat] := by
      rw [List.getD_eq_getElem?_getD, List.getElem?_eq_getElem hi']; rfl
    have et : l.take (i + 1).toNat = l.take i.toNat ++ [l[i.toNat]] := by
      have : (i + 1).toNat = i.toNat + 1 := by omega
      rw [this, List.take_succ_eq_append_getElem hi']
    have hbl : ∀ y ∈ l.take i.toNat, bl y l[i.toNat] := by
      intro y hy
      have h1 : l = l.take i.toNat ++ l.drop i.toNat := (List.take_append_drop _ _).symm
      rw [h1] at hs
      refine (List.pairwise_append.1 hs).2.2 y hy _ ?_
      rw [List.drop_eq_getElem_cons hi']; exact List.mem_cons_self
    simp (disch := omega) only [dT (show i < (l.length : Int) by omega), inbT, cond_true, wr]
    rw [eg]
    by_cases c : i = 0
    · simp only [eT c]
      refine ih f _ (i + 1) (by omega) (by omega) (by omega) fun _ => ?_
      rw [et]
      have : l.take i.toNat = [] := by rw [c]; rfl
      rw [this]
      refine ⟨by simp, fun y hy => ?_⟩
      have hy' : y = l[i.toNat] := by simpa using hy
      exact ⟨by rw [hy']; omega, fun _ => .inl hy'.symm⟩
    · obtain ⟨o1, o2⟩ := ho (by omega)
      simp only [eF c]
      by_cases c2 : ((l[i.toNat]).length : Int) < out.length
      · simp only [dT c2]
        refine ih f _ (i + 1) (by omega) (by omega) (by omega) fun _ => ?_
        rw [et]
        refine ⟨List.mem_append.2 (.inr (List.mem_singleton.2 rfl)), fun y hy => ?_⟩
        rcases List.mem_append.1 hy with hy | hy
        · have := o2 y hy
          exact ⟨by omega, fun h => by omega⟩
        · have hy' : y = l[i.toNat] := by simpa using hy
          exact ⟨by rw [hy']; omega, fun _ => .inl hy'.symm⟩
      · simp only [dF c2]
        refine ih f _ (i + 1) (by omega) (by omega) (by omega) fun _ => ?_
        rw [et]
        refine ⟨List.mem_append.2 (.inl o1), fun y hy => ?_⟩
        rcases List.mem_append.1 hy with hy | hy
        · exact o2 y hy
        · have hy' : y = l[i.toNat] := by simpa using hy
          subst hy'
          exact ⟨by omega, fun _ => .inr (hbl out o1)⟩
def Few (x : (List (Int × (Int × Unit))) × (Int × (Int × Unit))) (k : List Int) : Prop :=
  k ∈ AL x ∧ ∀ y ∈ AL x, k.length ≤ y.length ∧ (y.length = k.length → k = y ∨ bl k y)
theorem few_of {x : (List (Int × (Int × Unit))) × (Int × (Int × Unit))} (ht : Tb x) : ∃ k, f96a (AL x, ((Value.func (.func 105) #[] #[]), ())) = .ret (k, (true, ())) ∧ Few x k ∧ f53 (x, ()) = .ret (k, (0, ())) := by
  have hf := fuel_big
  have hl := AL_len x ht
  obtain ⟨l0, _, m0, _⟩ := AL_full ht
  have hpos : 0 < (AL x).length := by
    cases h : AL x with
    | nil => rw [h] at m0; cases m0
    | cons _ _ => simp
  obtain ⟨o, e1, e2⟩ := best_loop (AL x) (by omega) (AL_sorted x) (AL x).length fuel [] 0 (by omega) (by omega) (by omega) (fun h => by omega)
  rw [dT (show ((AL x).length : Int) > 0 by omega)] at e1
  have e0 : f96a (AL x, ((Value.func (.func 105) #[] #[]), ())) = F96a fuel (AL x, ((Value.func (.func 105) #[] #[]), ())) := (q96a _).symm.trans (e96a fuel (AL x, ((Value.func (.func 105) #[] #[]), ())))
  have e3 : f96a (AL x, ((Value.func (.func 105) #[] #[]), ())) = .ret (o, (true, ())) := e0.trans e1
  refine ⟨o, e3, e2 hpos, ?_⟩
  obtain ⟨b1, a1, a2⟩ := f77_at x
  obtain rfl : b1 = true := a2.2 ht
  unfold f53 F53
  simp only [a1, Bool.not_true, f103_at x ht, e3]
end Go.V
