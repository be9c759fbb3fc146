/- A part of the proof of a law of the step table. -/
import Derived.Test.YtpnilbemlgbokaaGreatDoorPK
set_option linter.all false
namespace Go.V
open Go.Proofs
abbrev lst (now : List Int) : Int := List.getD now (now.length - 1) 0
theorem lst_snoc (now : List Int) (u : Int) : lst (now ++ [u]) = u := by
  unfold lst
  have e : (now ++ [u]).length - 1 = now.length := by simp
  rw [e, getD_snoc _ _ _ (Nat.le_refl _), if_pos rfl]
def tr (g : List Int → List (List Int)) (P : List Int → Int → Bool) (now : List Int) : Nat → Int → List (List Int)
  | 0, _ => []
  | m + 1, t => (match P now t with | true => (g (now ++ [t])).map (t :: ·) | false => []) ++ tr g P now m (t + 1)
theorem tr_succ (g : List Int → List (List Int)) (P : List Int → Int → Bool) (now : List Int) (m : Nat) (t : Int) : tr g P now (m + 1) t = (match P now t with | true => (g (now ++ [t])).map (t :: ·) | false => []) ++ tr g P now m (t + 1) := rfl
def tl (P : List Int → Int → Bool) (n : Int) : Nat → List Int → List (List Int)
  | 0, _ => []
  | f + 1, now => match decide (lst now = n - 1) with
    | true => [[]]
    | false => tr (tl P n f) P now (n - 1 - lst now).toNat (lst now + 1)
def Path (P : List Int → Int → Bool) (n : Int) : List Int → List Int → Prop
  | now, [] => lst now = n - 1
  | now, t :: ts => lst now ≠ n - 1 ∧ lst now < t ∧ t < n ∧ P now t = true ∧ Path P n (now ++ [t]) ts
theorem tr_mem {g : List Int → List (List Int)} {P : List Int → Int → Bool} {now l : List Int} : ∀ (m : Nat) (t : Int), l ∈ tr g P now m t ↔ ∃ u ts, l = u :: ts ∧ t ≤ u ∧ u < t + m ∧ P now u = true ∧ ts ∈ g (now ++ [u]) := by
  intro m
  induction m with
  | zero => intro t; unfold tr; exact ⟨fun h => (by cases h), fun ⟨u, ts, _, h1, h2, _⟩ => (by omega)⟩
  | succ m ih =>
    intro t
    unfold tr
    rw [List.mem_append, ih]
    constructor
    · rintro (h | ⟨u, ts, h1, h2, h3, h4⟩)
      · cases hp : P now t with
        | false => rw [hp] at h; cases h
        | true =>
          rw [hp] at h
          obtain ⟨ts, h1, h2⟩ := List.mem_map.1 h
          exact ⟨t, ts, h2.symm, by omega, by omega, hp, h1⟩
      · exact ⟨u, ts, h1, by omega, by omega, h4⟩
    · rintro ⟨u, ts, h1, h2, h3, h4, h5⟩
      by_cases e : u = t
      · subst e
        left
        rw [h4]
        exact List.mem_map.2 ⟨ts, h5, h1.symm⟩
      · right
        exact ⟨u, ts, h1, by omega, by omega, h4, h5⟩
theorem tl_mem {P : List Int → Int → Bool} {n : Int} : ∀ (f : Nat) (now l : List Int), lst now ≤ n - 1 → n - 1 - lst now < f → (l ∈ tl P n f now ↔ Path P n now l) := by
  intro f
  induction f with
  | zero => intro now l h1 h2; omega
  | succ f ih =>
    intro now l h1 h2
    unfold tl
    by_cases h : lst now = n - 1
    · rw [dT h]
      cases l with
      | nil => exact ⟨fun _ => h, fun _ => List.mem_singleton.2 rfl⟩
      | cons t ts => exact ⟨fun hm => (by have := List.mem_singleton.1 hm; cases this), fun hp => absurd h hp.1⟩
    · rw [dF h]
      show l ∈ tr _ _ _ _ _ ↔ _
      rw [tr_mem]
      constructor
      · rintro ⟨u, ts, rfl, q1, q2, q3, q4⟩
        have q5 := (ih (now ++ [u]) ts (by rw [lst_snoc]; omega) (by rw [lst_snoc]; omega)).1 q4
        exact ⟨h, by omega, by omega, q3, q5⟩
      · intro hp
        cases l with
        | nil => exact absurd hp h
        | cons t ts =>
          obtain ⟨_, q1, q2, q3, q4⟩ := hp
          exact ⟨t, ts, rfl, by omega, by omega, q3, (ih (now ++ [t]) ts (by rw [lst_snoc]; omega) (by rw [lst_snoc]; omega)).2 q4⟩
theorem tr_sorted {g : List Int → List (List Int)} {P : List Int → Int → Bool} {now : List Int} (hg : ∀ w, (g w).Pairwise bl) : ∀ (m : Nat) (t : Int), (tr g P now m t).Pairwise bl := by
  intro m
  induction m with
  | zero => intro t; exact List.Pairwise.nil
  | succ m ih =>
    intro t
    unfold tr
    refine List.pairwise_append.2 ⟨?_, ih (t + 1), fun a ha b hb => ?_⟩
    · cases P now t
      · exact List.Pairwise.nil
      · exact List.pairwise_map.2 ((hg _).imp fun h => .inr ⟨rfl, h⟩)
    · obtain ⟨u, ts, rfl, q1, q2, _⟩ := (tr_mem _ _).1 hb
      cases hp : P now t with
      | false => rw [hp] at ha; cases ha
      | true =>
        rw [hp] at ha
        obtain ⟨ts', _, rfl⟩ := List.mem_map.1 ha
        exact .inl (by omega)
theorem tl_sorted {P : List Int → Int → Bool} {n : Int} : ∀ (f : Nat) (now : List Int), (tl P n f now).Pairwise bl := by
  intro f
  induction f with
  | zero => intro now; exact List.Pairwise.nil
  | succ f ih =>
    intro now
    unfold tl
    split
    · exact List.pairwise_cons.2 ⟨fun a ha => (by cases ha), List.Pairwise.nil⟩
    · exact tr_sorted ih _ _
theorem two_le {d e : Nat} (h : d ≤ e) : 2 ^ d ≤ 2 ^ e := Nat.pow_le_pow_right (by omega) h
theorem tl_len {P : List Int → Int → Bool} {n : Int} : ∀ (f : Nat) (now : List Int), (tl P n f now).length ≤ 2 ^ (n - 1 - lst now).toNat := by
  intro f
  induction f with
  | zero => intro now; exact Nat.zero_le _
  | succ f ih =>
    intro now
    have key : ∀ (m : Nat) (t : Int), t + m ≤ n → (tr (tl P n f) P now m t).length ≤ 2 ^ (n - t).toNat := by
      intro m
      induction m with
      | zero => intro t _; exact Nat.zero_le _
      | succ m ihm =>
        intro t ht
        unfold tr
        rw [List.length_append]
        have a := ihm (t + 1) (by omega)
        have b : (match P now t with | true => (tl P n f (now ++ [t])).map (t :: ·) | false => []).length ≤ 2 ^ (n - (t + 1)).toNat := by
          cases P now t
          · exact Nat.zero_le _
          · show (List.map _ _).length ≤ _
            rw [List.length_map]
            refine Nat.le_trans (ih (now ++ [t])) (two_le ?_)
            rw [lst_snoc]; omega
        have e : (n - t).toNat = (n - (t + 1)).toNat + 1 := by omega
        rw [e, Nat.pow_succ]; omega
    unfold tl
    split
    · exact Nat.one_le_two_pow
    · next h =>
      by_cases hh : lst now + 1 ≤ n
      · exact Nat.le_trans (key _ _ (by omega)) (two_le (by omega))
      · have e : (n - 1 - lst now).toNat = 0 := by omega
        rw [e]; exact Nat.zero_le _
noncomputable def su (x : (List (Int × (Int × Unit))) × (Int × (Int × Unit))) (a b : Int) : Bool := @decide (∀ j : Int, a < j → j < b → Of x a b j ≤ x.2.2.1) (Classical.propDecidable _)
theorem su_iff {x : (List (Int × (Int × Unit))) × (Int × (Int × Unit))} {a b : Int} : su x a b = true ↔ ∀ j : Int, a < j → j < b → Of x a b j ≤ x.2.2.1 := by
  unfold su; exact @decide_eq_true_iff _ (Classical.propDecidable _)
section
variable (x : (List (Int × (Int × Unit))) × (Int × (Int × Unit))) (ht : Tb x) {a b : Int} (h0 : 0 ≤ a) (h1 : a < b) (h2 : b < x.1.length)
include ht h0 h1 h2 in
theorem sure_loop : ∀ (m f : Nat) (i : Int) (s : Bool), m < f → a < i → i + m = b → ∃ r, sureN x a b f i s = .ret r ∧ (r = true ↔ s = true ∧ ∀ j : Int, i ≤ j → j < b → Of x a b j ≤ x.2.2.1) := by
  have t1 := ht.1
  intro m
  induction m with
  | zero =>
    intro f i s hf hi he
    obtain ⟨f, rfl⟩ := succ_of hf
    refine ⟨s, ?_, ⟨fun h => ⟨h, fun j j1 j2 => by omega⟩, fun h => h.1⟩⟩
    unfold sureN
    simp (disch := omega) only [dF]
  | succ m ih =>
    intro f i s hf hi he
    obtain ⟨f, rfl⟩ := succ_of hf
    have e1 := f100_at x [] ht h0 (show a ≤ i by omega) (show i ≤ b by omega) h1 h2
    unfold sureN
    simp (disch := omega) only [dT (show i < b by omega), e1, wr]
    by_cases q : Of x a b i > x.2.2.1
    · simp only [dT q]
      obtain ⟨r, q1, q2⟩ := ih f (i + 1) false (by omega) (by omega) (by omega)
      refine ⟨r, q1, q2.trans ⟨fun h => absurd h.1 (by simp), fun h => ?_⟩⟩
      have := h.2 i (by omega) (by omega)
      omega
    · simp only [dF q]
      obtain ⟨r, q1, q2⟩ := ih f (i + 1) s (by omega) (by omega) (by omega)
      refine ⟨r, q1, q2.trans ⟨fun h => ⟨h.1, fun j j1 j2 => ?_⟩, fun h => ⟨h.1, fun j j1 j2 => h.2 j (by omega) j2⟩⟩⟩
      by_cases e : j = i
      · subst e; omega
      · exact h.2 j (by omega) j2
include ht h0 h1 h2 in
theorem fsure_at : fsure x a b = .ret (su x a b) := by
  have hf := fuel_big
  have t1 := ht.1
  obtain ⟨r, q1, q2⟩ := sure_loop x ht h0 h1 h2 (b - a - 1).toNat fuel (a + 1) true (by omega) (by omega) (by omega)
  have e3 : r = su x a b := by
    rw [Bool.eq_iff_iff, q2, su_iff]
    exact ⟨fun h j j1 j2 => h.2 j (by omega) j2, fun h => ⟨rfl, fun j j1 j2 => h j (by omega) j2⟩⟩
  have r1 : rng a = true := by unfold rng; simp; omega
  have r2 : rng b = true := by unfold rng; simp; omega
  unfold fsure
  rw [r1, r2, wr (by omega) (by omega), ← e3]
  exact q1
end
noncomputable def PP (x : (List (Int × (Int × Unit))) × (Int × (Int × Unit))) (now : List Int) (t : Int) : Bool := su x (lst now) t
section
variable (x : (List (Int × (Int × Unit))) × (Int × (Int × Unit))) (ht : Tb x)
include ht in
theorem putN_at : ∀ (f : Nat) (now : List Int), 1 ≤ now.length → 0 ≤ lst now → lst now ≤ (x.1.length : Int) - 1 → (x.1.length : Int) - 1 - lst now < f → (now.length : Int) + (x.1.length - lst now) ≤ 1000 →
    putN x f now = .ret ((tl (PP x) x.1.length f now).map (now ++ ·)) := by
  have tl0 := ht.1
  intro f
  induction f with
  | zero => intro now _ _ _ h _; omega
  | succ f ih =>
    intro now h1 h2 h3 h4 h5
    have key : ∀ (m g : Nat) (t : Int), m < g → lst now < t → t + m = x.1.length → putL (putN x f) x now (lst now) g t = .ret ((tr (tl (PP x) x.1.length f) (PP x) now m t).map (now ++ ·)) := by
      intro m
      induction m with
      | zero =>
        intro g t hg h1' h2'
        obtain ⟨g, rfl⟩ := succ_of hg
        unfold putL; try delta lenI
        simp (disch := omega) only [dF]
        rfl
      | succ m ihm =>
        intro g t hg h1' h2'
        obtain ⟨g, rfl⟩ := succ_of hg
        have i1 := ihm g (t + 1) (by omega) (by omega) (by omega)
        unfold putL; try delta lenI
        simp only [dT (show t < (x.1.length : Int) by omega), fsure_at x ht h2 h1' (show t < (x.1.length : Int) by omega), i1]
        have eP : PP x now t = su x (lst now) t := rfl
        rw [tr_succ, eP]
        cases hs : su x (lst now) t
        · rfl
        · have i2 := ih (now ++ [t]) (by simp) (by rw [lst_snoc]; omega) (by rw [lst_snoc]; omega) (by rw [lst_snoc]; omega) (by rw [lst_snoc]; simp; omega)
          simp only [i2]
          congr 1
          rw [List.map_append, List.map_map]
          congr 1
          refine List.map_congr_left fun a _ => ?_
          simp
    unfold putN; try delta lenI
    have c1 : decide (1 ≤ now.length) = true := dT h1
    have c2 : decide (now.length < 1000000) = true := dT (by omega)
    have c3 : decide (x.1.length < 1000000) = true := dT (by omega)
    have c4 : decide (0 ≤ now.getD (now.length - 1) 0) = true := dT h2
    have c5 : decide (now.getD (now.length - 1) 0 < (x.1.length : Int)) = true := dT (by unfold lst at h3; omega)
    rw [c1, c2, c3, c4, c5]
    simp only [Bool.and_self, cond_true]
    unfold tl
    by_cases h : lst now = (x.1.length : Int) - 1
    · have h' : now.getD (now.length - 1) 0 = (x.1.length : Int) - 1 := h
      simp only [dT h, dT h']
      simp
    · have h' : ¬ now.getD (now.length - 1) 0 = (x.1.length : Int) - 1 := h
      simp only [dF h, dF h']
      exact key ((x.1.length : Int) - 1 - lst now).toNat (x.1.length + 1) (lst now + 1) (by omega) (by omega) (by omega)
noncomputable def AL : List (List Int) := (tl (PP x) x.1.length (x.1.length + 1) [0]).map ([0] ++ ·)
include ht in
theorem AL_at : f140 ((), (x, ())) = .ret (AL x) := by
  have t1 := ht.1
  unfold f140
  exact putN_at x ht (x.1.length + 1) [0] (by simp) (by show (0 : Int) ≤ 0; omega) (by show (0 : Int) ≤ _; omega) (by show _ - (0 : Int) < _; omega) (by show (1 : Int) + (_ - 0) ≤ 1000; omega)
include ht in
theorem AL_len : (AL x).length ≤ 4096 := by
  have t1 := ht.1
  unfold AL
  rw [List.length_map]
  refine Nat.le_trans (tl_len _ _) (two_le (e := 12) ?_)
  show ((x.1.length : Int) - 1 - 0).toNat ≤ 12
  omega
theorem AL_sorted : (AL x).Pairwise bl := List.pairwise_map.2 ((tl_sorted _ _).imp fun h => bl_app [0] h)
theorem collect_loop (X : (Unit × (((List (Int × (Int × Unit))) × (Int × (Int × Unit))) × Unit)) × Unit) : ∀ (r s : List (List Int)), s.length + r.length < 1000000 → R139_0 fuel r X s = .ret (s ++ r) := by
  intro r
  induction r with
  | nil => intro s _; rw [R139_0_nil, List.append_nil]
  | cons y ys ih =>
    intro s hs
    rw [List.length_cons] at hs
    rw [R139_0_cons, fitsT (by simp; omega), cond_true, ih (s ++ [y]) (by simp; omega)]
    simp
include ht in
theorem f103_at : f103 (((), (x, ())), ()) = .ret (AL x) := by
  have h := AL_at x ht
  have hl := AL_len x ht
  have e : f139 (((), (x, ())), ()) = .ret (AL x) := by
    unfold f139 F139
    simp only [h]
    rw [collect_loop _ (AL x) [] (by simp; omega)]
    rfl
  unfold f103
  rw [e]
end
end Go.V
