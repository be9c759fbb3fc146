/- A part of the proof of a law of the step table. -/
import Derived.Test.YtpnilbemlgbokaaGreatDoorPA
set_option linter.all false
namespace Go.V
open Go.Proofs
theorem fig_snoc {out : List Int} {n v : Int} {F : Int → Int} (h : Fig out n F) (hn : 0 ≤ n) (hv : v = F n) : Fig (out ++ [v]) (n + 1) F := by
  have h1 := h.1
  refine ⟨by simp; omega, fun j j1 j2 => ?_⟩
  rw [getD_snoc _ _ _ (by omega)]
  split
  · next e => have : j = n := by omega
              subst this; exact hv
  · next e => exact h.2 j j1 (by omega)
def insF (k : List Int) (r row j : Int) : Int := if j < r then List.getD k j.toNat 0 else if j = r then row else List.getD k (j - 1).toNat 0
theorem at_of {k : List Int} {n row : Int} (hk : Kp k n) (hl : k.length ≤ 1000) (h1 : 0 ≤ row) (h2 : row ≤ n - 1) :
    ∃ r b, f108 (k, (row, ())) = .ret (r, (b, ())) ∧ (b = true ↔ row ∈ k) ∧ (row ∉ k → 0 < r ∧ r < k.length ∧ (∀ q : Int, 0 ≤ q → q < r → List.getD k q.toNat 0 < row) ∧ (∀ q : Int, r ≤ q → q < k.length → row < List.getD k q.toNat 0)) := by
  have hf := fuel_big
  have hlen := hk.1
  obtain ⟨r, b, e, r1, r2, r3, r4, r5⟩ := f108_loop k n row hk hl k.length fuel 0 k.length (by omega) (by omega) (by omega) (by omega) (by omega) (fun q q1 q2 => by omega) (fun q q1 q2 => by omega)
  have hr : r < k.length := by
    have : ¬ (k.length : Int) - 1 < r := fun h => by
      have := r3 ((k.length : Int) - 1) (by omega) h
      rw [hk.2.2.1] at this; omega
    omega
  refine ⟨r, b, e, r5.trans ⟨fun h => h.2 ▸ getD_mem r1 h.1, fun h => ⟨hr, ?_⟩⟩, fun hm => ⟨?_, hr, r3, fun q q1 q2 => ?_⟩⟩
  · obtain ⟨q, q1, q2, rfl⟩ := mem_getD h
    by_cases c : q < r
    · have := r3 q q1 c; omega
    · have a := kp_le hk (i := r) (j := q) r1 (by omega) q2
      have b := r4 r (by omega) hr
      omega
  · have : r ≠ 0 := fun h => by
      subst h
      have a := r4 0 (by omega) (by omega)
      rw [Int.toNat_zero, hk.2.1] at a
      have e0 : row = 0 := by omega
      have m0 := getD_mem (k := k) (j := 0) (by omega) (by omega)
      rw [Int.toNat_zero, hk.2.1] at m0
      exact hm (e0 ▸ m0)
    omega
  · have a := r4 q q1 q2
    have : List.getD k q.toNat 0 ≠ row := fun e => hm (e ▸ getD_mem (by omega) q2)
    omega
theorem ins_fig {k : List Int} {r row : Int} (hr : 0 ≤ r) (hr2 : r ≤ k.length) : Fig (ins k r.toNat row) ((k.length : Int) + 1) (insF k r row) := by
  refine ⟨by rw [ins_length _ _ (by omega)]; omega, fun j j1 j2 => ?_⟩
  rw [List.getD_eq_getElem?_getD, ins_get _ _ (by omega)]
  unfold insF
  by_cases h1 : j < r
  · rw [if_pos h1, if_pos (by omega), ← List.getD_eq_getElem?_getD]
  · by_cases h2 : j = r
    · rw [if_neg h1, if_pos h2, if_neg (by omega), if_pos (by omega)]; rfl
    · rw [if_neg h1, if_neg h2, if_neg (by omega), if_neg (by omega), ← List.getD_eq_getElem?_getD]
      congr 1; omega
theorem with_loop {k : List Int} {r row : Int} (hl : k.length ≤ 1000) (r0 : 0 < r) (r1 : r < k.length) (lo : ∀ q : Int, 0 ≤ q → q < r → List.getD k q.toNat 0 < row) (hi : ∀ q : Int, r ≤ q → q < k.length → row < List.getD k q.toNat 0) :
    ∀ (m f : Nat) (out : List Int) (i : Int), m < f → 0 ≤ i → i + m = k.length → Fig out (if i ≤ r then i else i + 1) (insF k r row) →
      ∃ l, L61_0 fuel f (k, (row, ())) out i = .ret l ∧ Fig l ((k.length : Int) + 1) (insF k r row) := by
  intro m
  induction m with
  | zero =>
    intro f out i hf h0 he ho
    obtain ⟨f, rfl⟩ := succ_of hf
    rw [L61_0_succ]; try delta lenI
    simp (disch := omega) only [dF]
    rw [if_neg (by omega)] at ho
    have e : i + 1 = (k.length : Int) + 1 := by omega
    rw [e] at ho
    exact ⟨out, rfl, ho⟩
  | succ m ih =>
    intro f out i hf h0 he ho
    obtain ⟨f, rfl⟩ := succ_of hf
    rw [L61_0_succ]; try delta lenI
    have hol : (out.length : Int) ≤ i + 1 := by have := ho.1; split at this <;> omega
    have g1 : fits out [row] = true := fitsT (by simp; omega)
    have g2 : ∀ v, fits out [v] = true := fun v => fitsT (by simp; omega)
    have g3 : ∀ v, fits (out ++ [row]) [v] = true := fun v => fitsT (by simp; omega)
    by_cases c1 : i < r
    · have q := lo i h0 c1
      rw [if_pos (by omega)] at ho
      simp (disch := omega) only [dT (show i < (k.length : Int) by omega), inbT, cond_true, dF (show ¬ List.getD k i.toNat 0 > row by omega), g2, wr]
      refine ih f _ (i + 1) (by omega) (by omega) (by omega) ?_
      rw [if_pos (by omega)]
      exact fig_snoc ho h0 (by unfold insF; rw [if_pos c1])
    · have q := hi i (by omega) (by omega)
      by_cases c2 : i = r
      · have q2 := lo (i - 1) (by omega) (by omega)
        rw [if_pos (by omega)] at ho
        simp (disch := omega) only [dT (show i < (k.length : Int) by omega), inbT, cond_true, dT (show List.getD k i.toNat 0 > row by omega), eF (show i ≠ 0 by omega), g1, g3, wr, dT q2]
        refine ih f _ (i + 1) (by omega) (by omega) (by omega) ?_
        rw [if_neg (by omega)]
        refine fig_snoc (fig_snoc ho h0 ?_) (by omega) ?_
        · unfold insF; rw [if_neg (by omega), if_pos c2]
        · unfold insF
          rw [if_neg (by omega), if_neg (by omega)]
          have e : i + 1 - 1 = i := by omega
          rw [e]
      · have q2 := hi (i - 1) (by omega) (by omega)
        rw [if_neg (by omega)] at ho
        simp (disch := omega) only [dT (show i < (k.length : Int) by omega), inbT, cond_true, dT (show List.getD k i.toNat 0 > row by omega), eF (show i ≠ 0 by omega), g2, wr, dF (show ¬ List.getD k (i - 1).toNat 0 < row by omega)]
        refine ih f _ (i + 1) (by omega) (by omega) (by omega) ?_
        rw [if_neg (by omega)]
        refine fig_snoc ho (by omega) ?_
        unfold insF
        rw [if_neg (by omega), if_neg (by omega)]
        have e : i + 1 - 1 = i := by omega
        rw [e]
theorem kp_ins {k l : List Int} {n r row : Int} (hk : Kp k n) (r0 : 0 < r) (r1 : r < k.length) (lo : ∀ q : Int, 0 ≤ q → q < r → List.getD k q.toNat 0 < row) (hi : ∀ q : Int, r ≤ q → q < k.length → row < List.getD k q.toNat 0)
    (h : Fig l ((k.length : Int) + 1) (insF k r row)) : Kp l n := by
  have hk1 := hk.1
  have h1 := h.1
  refine ⟨by omega, ?_, ?_, fun j j1 j2 => ?_⟩
  · have := h.2 0 (by omega) (by omega)
    rw [Int.toNat_zero] at this
    rw [this]
    unfold insF
    rw [if_pos r0]
    exact hk.2.1
  · rw [h.2 _ (by omega) (by omega)]
    unfold insF
    rw [if_neg (by omega), if_neg (by omega)]
    have e : (l.length : Int) - 1 - 1 = (k.length : Int) - 1 := by omega
    rw [e]
    exact hk.2.2.1
  · rw [h.2 _ (by omega) (by omega), h.2 _ (by omega) (by omega)]
    unfold insF
    by_cases c1 : j < r
    · rw [if_pos (by omega), if_pos c1]
      exact hk.2.2.2 j j1 (by omega)
    · by_cases c2 : j = r
      · rw [if_pos (by omega), if_neg c1, if_pos c2]
        exact lo (j - 1) (by omega) (by omega)
      · by_cases c3 : j - 1 = r
        · rw [if_neg (by omega), if_pos c3, if_neg c1, if_neg c2]
          exact hi (j - 1) (by omega) (by omega)
        · rw [if_neg (by omega), if_neg c3, if_neg c1, if_neg c2]
          exact hk.2.2.2 (j - 1) (by omega) (by omega)
noncomputable def wth (k : List Int) (row : Int) : List Int := match f61 (k, (row, ())) with | .ret l => l | _ => []
theorem with_at {k : List Int} {n row : Int} (hk : Kp k n) (hl : k.length ≤ 999) (h1 : 0 ≤ row) (h2 : row ≤ n - 1) (hm : row ∉ k) :
    f61 (k, (row, ())) = .ret (wth k row) ∧ Kp (wth k row) n ∧ ∃ r, f108 (k, (row, ())) = .ret (r, (false, ())) ∧ f109 (k, (r, ([row], ()))) = .ret (wth k row) := by
  have hf := fuel_big
  obtain ⟨r, b, e, e1, e2⟩ := at_of hk (by omega) h1 h2
  obtain ⟨r0, r1, lo, hi⟩ := e2 hm
  obtain rfl : b = false := by cases b; rfl; exact absurd (e1.1 rfl) hm
  obtain ⟨l, q1, q2⟩ := with_loop (by omega) r0 r1 lo hi k.length fuel [] 0 (by omega) (by omega) (by omega) (by rw [if_pos (by omega)]; exact ⟨rfl, fun j a b => by omega⟩)
  have q3 : f61 (k, (row, ())) = .ret l := q1
  have q4 : wth k row = l := by unfold wth; rw [q3]
  rw [q4]
  refine ⟨q3, kp_ins hk r0 r1 lo hi q2, r, e, ?_⟩
  have q5 : ins k r.toNat row = l := fig_ext (ins_fig (by omega) (by omega)) q2
  unfold f109
  simp only [dT (show 0 ≤ r by omega), dT (show r ≤ (k.length : Int) by omega), dT (show k.length < 1000000 by omega), Bool.and_self, cond_true, q5]
noncomputable def cn (x : (List (Int × (Int × Unit))) × (Int × (Int × Unit))) (k : List Int) (row : Int) : Int := (dub x (wth k row)).length
noncomputable def cands (x : (List (Int × (Int × Unit))) × (Int × (Int × Unit))) (k : List Int) (t : Int) : Nat → List (Int × (Int × Unit))
  | 0 => []
  | m + 1 => if t ∈ k then cands x k (t + 1) m else (t, (cn x k t, ())) :: cands x k (t + 1) m
def bst : List (Int × (Int × Unit)) → Int × (Int × Bool) → Int × (Int × Bool)
  | [], s => s
  | p :: l, s => bst l (match (!s.2.2) with | true => (p.1, (p.2.1, true)) | false => (match decide (p.2.1 < s.2.1) with | true => (p.1, (p.2.1, true)) | false => s))
section
variable (x : (List (Int × (Int × Unit))) × (Int × (Int × Unit))) (ht : Tb x) (k : List Int) (hk : Kp k x.1.length)
include ht hk in
theorem add60 : ∀ (m f : Nat) (t a le : Int) (met : Bool), m < f → 0 ≤ t → t + m = x.1.length →
    L60_0 fuel f (x, (k, ())) a le met t = .ret ((bst (cands x k t m) (a, (le, met))).1, ((bst (cands x k t m) (a, (le, met))).2.1, ((bst (cands x k t m) (a, (le, met))).2.2, ()))) := by
  have tl := ht.1
  have kl := kp_len hk
  intro m
  induction m with
  | zero =>
    intro f t a le met hf h0 he
    obtain ⟨f, rfl⟩ := succ_of hf
    rw [L60_0_succ]; try delta lenI
    simp (disch := omega) only [dF]
    rfl
  | succ m ih =>
    intro f t a le met hf h0 he
    obtain ⟨f, rfl⟩ := succ_of hf
    rw [L60_0_succ]; try delta lenI
    have ih' := fun a' le' met' => ih f (t + 1) a' le' met' (by omega) (by omega) (by omega)
    simp (disch := omega) only [dT (show t < (x.1.length : Int) by omega), f41_at k t (by omega), wr]
    unfold cands
    by_cases hm : t ∈ k
    · simp only [dT hm, if_pos hm]
      exact ih' a le met
    · obtain ⟨q1, q2, _⟩ := with_at hk (by omega) h0 (show t ≤ (x.1.length : Int) - 1 by omega) hm
      have kl2 := kp_len q2
      have q3 := f40_at x ht q2 (show (wth k t).length ≤ 1000 by omega)
      simp only [dF hm, if_neg hm, q1, q3]
      unfold bst
      show _ = _
      cases met
      · simp only [Bool.not_false]
        exact ih' t _ true
      · simp only [Bool.not_true]
        by_cases c : ((dub x (wth k t)).length : Int) < le
        · have c' : cn x k t < le := c
          simp only [dT c, dT c']
          exact ih' t _ true
        · have c' : ¬ cn x k t < le := c
          simp only [dF c, dF c']
          exact ih' a le true
theorem best111 (l : List (Int × (Int × Unit))) (hl : l.length ≤ 1000) : ∀ (m f : Nat) (i o3 o4 : Int), m < f → 0 ≤ i → i + m = l.length →
    L111a_0 fuel f (l, ((Value.func (.func 112) #[] #[]), ())) 0 0 o3 o4 i = .ret (((bst (l.drop i.toNat) (o3, (o4, decide (0 < i)))).1, ((bst (l.drop i.toNat) (o3, (o4, decide (0 < i)))).2.1, ())), (decide ((l.length : Int) > 0), ())) := by
  intro m
  induction m with
  | zero =>
    intro f i o3 o4 hf h0 he
    obtain ⟨f, rfl⟩ := succ_of hf
    rw [L111a_0_succ]; try delta lenI
    simp (disch := omega) only [dF (show ¬ i < (l.length : Int) by omega)]
    have : l.drop i.toNat = [] := List.drop_eq_nil_of_le (by omega)
    rw [this]
    rfl
  | succ m ih =>
    intro f i o3 o4 hf h0 he
    obtain ⟨f, rfl⟩ := succ_of hf
    rw [L111a_0_succ]; try delta lenI
    have hi : i.toNat < l.length := by omega
    have e : l.drop i.toNat = List.getD l i.toNat ((0 : Int), ((0 : Int), ())) :: l.drop (i + 1).toNat := by
      rw [List.drop_eq_getElem_cons hi, List.getD_eq_getElem?_getD, List.getElem?_eq_getElem hi]
      have : (i + 1).toNat = i.toNat + 1 := by omega
      rw [this]; rfl
    have ih' := fun o3' o4' => ih f (i + 1) o3' o4' (by omega) (by omega) (by omega)
    simp (disch := omega) only [dT (show i < (l.length : Int) by omega), inbT, cond_true, wr]
    rw [e]
    unfold bst
    have d1 : decide (0 < i + 1) = true := dT (by omega)
    rw [d1] at ih'
    by_cases c : i = 0
    · simp only [eT c, dF (show ¬ 0 < i by omega), Bool.not_false]
      exact ih' _ _
    · simp only [eF c, dT (show 0 < i by omega), Bool.not_true]
      by_cases c2 : (List.getD l i.toNat ((0 : Int), ((0 : Int), ()))).2.1 < o4
      · simp only [dT c2]
        exact ih' _ _
      · simp only [dF c2]
        exact ih' _ _
theorem bst_met : ∀ (l : List (Int × (Int × Unit))) (a le : Int) (met : Bool), (bst l (a, (le, met))).2.2 = (met || decide ((l.length : Int) > 0)) := by
  intro l
  induction l with
  | nil => intro a le met; simp [bst]
  | cons p l ih =>
    intro a le met
    unfold bst
    have h : decide (((p :: l).length : Int) > 0) = true := dT (by rw [List.length_cons]; omega)
    rw [h, Bool.or_true]
    cases met
    · simp only [Bool.not_false]
      rw [ih]; rfl
    · simp only [Bool.not_true]
      split
      · rw [ih]; rfl
      · rw [ih]; rfl
theorem best_at (l : List (Int × (Int × Unit))) (hl : l.length ≤ 1000) : f111a (l, ((Value.func (.func 112) #[] #[]), ())) = .ret (((bst l (0, (0, false))).1, ((bst l (0, (0, false))).2.1, ())), (decide ((l.length : Int) > 0), ())) := by
  have hf := fuel_big
  have e0 : f111a (l, ((Value.func (.func 112) #[] #[]), ())) = F111a fuel (l, ((Value.func (.func 112) #[] #[]), ())) := (q111a _).symm.trans (e111a fuel (l, ((Value.func (.func 112) #[] #[]), ())))
  rw [e0]
  exact best111 l hl l.length fuel 0 0 0 (by omega) (by omega) (by omega)
include ht hk in
theorem add59 : ∀ (m f : Nat) (t : Int) (l : List (Int × (Int × Unit))), m < f → 0 ≤ t → t + m = x.1.length → (l.length : Int) ≤ t →
    L59_0 fuel f (x, (k, ())) l t = .ret (if (l ++ cands x k t m).length > 0 then ((bst (l ++ cands x k t m) (0, (0, false))).1, ((bst (l ++ cands x k t m) (0, (0, false))).2.1, (0, ()))) else (0, (0, (5, ())))) := by
  have tl := ht.1
  have kl := kp_len hk
  intro m
  induction m with
  | zero =>
    intro f t l hf h0 he hl
    obtain ⟨f, rfl⟩ := succ_of hf
    rw [L59_0_succ]; try delta lenI
    simp (disch := omega) only [dF (show ¬ t < (x.1.length : Int) by omega), best_at l (by omega)]
    unfold cands
    rw [List.append_nil]
    by_cases c : (l.length : Int) > 0
    · simp only [dT c, Bool.not_true]
      rw [if_pos (by omega)]
    · simp only [dF c, Bool.not_false]
      rw [if_neg (by omega)]
  | succ m ih =>
    intro f t l hf h0 he hl
    obtain ⟨f, rfl⟩ := succ_of hf
    rw [L59_0_succ]; try delta lenI
    simp (disch := omega) only [dT (show t < (x.1.length : Int) by omega), wr]
    unfold cands
    by_cases hm : t ∈ k
    · obtain ⟨r, b, e, e1, _⟩ := at_of hk (by omega) h0 (show t ≤ (x.1.length : Int) - 1 by omega)
      obtain rfl : b = true := e1.2 hm
      simp only [e, Bool.not_true, if_pos hm]
      exact ih f (t + 1) l (by omega) (by omega) (by omega) (by omega)
    · obtain ⟨q1, q2, r, q3, q4⟩ := with_at hk (by omega) h0 (show t ≤ (x.1.length : Int) - 1 by omega) hm
      have kl2 := kp_len q2
      have q5 := f92_at x ht q2 (show (wth k t).length ≤ 1000 by omega)
      have g : ∀ v : Int × (Int × Unit), fits l [v] = true := fun v => fitsT (by simp; omega)
      simp only [q3, Bool.not_false, clone_at k (by omega), q4, q5, g, cond_true, if_neg hm]
      have := ih f (t + 1) (l ++ [(t, (cn x k t, ()))]) (by omega) (by omega) (by omega) (by simp; omega)
      rw [List.append_assoc] at this
      exact this
noncomputable def addS : Int × (Int × Bool) := bst (cands x k 0 x.1.length) (0, (0, false))
include ht hk in
theorem adds : f60 (x, (k, ())) = .ret ((addS x k).1, ((addS x k).2.1, ((addS x k).2.2, ()))) ∧
    f59 (x, (k, ())) = .ret (if (addS x k).2.2 = true then ((addS x k).1, ((addS x k).2.1, (0, ()))) else (0, (0, (5, ())))) := by
  have hf := fuel_big
  have tl := ht.1
  have kl := kp_len hk
  refine ⟨add60 x ht k hk x.1.length fuel 0 0 0 false (by omega) (by omega) (by omega), ?_⟩
  obtain ⟨b1, a1, a2⟩ := f77_at x
  obtain rfl : b1 = true := a2.2 ht
  obtain ⟨b2, a3, a4⟩ := f78_at x k (by omega) (by omega)
  obtain rfl : b2 = true := a4.2 hk
  unfold f59 F59; try delta lenI
  simp only [a1, a3, Bool.not_true]
  rw [add59 x ht k hk x.1.length fuel 0 [] (by omega) (by omega) (by omega) (by simp)]
  have e : (addS x k).2.2 = decide (((cands x k 0 x.1.length).length : Int) > 0) := by
    unfold addS; rw [bst_met]; rfl
  rw [List.nil_append]
  congr 1
  by_cases c : ((cands x k 0 x.1.length).length : Int) > 0
  · rw [if_pos (by omega), if_pos (by rw [e, dT c])]
    rfl
  · rw [if_neg (by omega), if_neg (by rw [e, dF c]; simp)]
end
theorem bst_least : ∀ (l : List (Int × (Int × Unit))) (a le : Int), (∀ p ∈ l, a < p.1) → l.Pairwise (fun p q => p.1 < q.1) →
    ((bst l (a, (le, true))).1 = a ∧ (bst l (a, (le, true))).2.1 = le ∨ ∃ p ∈ l, (bst l (a, (le, true))).1 = p.1 ∧ (bst l (a, (le, true))).2.1 = p.2.1) ∧ (bst l (a, (le, true))).2.1 ≤ le ∧ ((bst l (a, (le, true))).2.1 = le → (bst l (a, (le, true))).1 = a) ∧ a ≤ (bst l (a, (le, true))).1 ∧
      ∀ p ∈ l, (bst l (a, (le, true))).2.1 ≤ p.2.1 ∧ ((bst l (a, (le, true))).2.1 = p.2.1 → (bst l (a, (le, true))).1 ≤ p.1) := by
  intro l
  induction l with
  | nil => intro a le _ _; exact ⟨.inl ⟨rfl, rfl⟩, Int.le_refl _, fun _ => rfl, Int.le_refl _, fun p hp => by cases hp⟩
  | cons p l ih =>
    intro a le ha hp
    have hp1 := (List.pairwise_cons.1 hp).1
    have hp2 := (List.pairwise_cons.1 hp).2
    have hap := ha p (by simp)
    by_cases c : p.2.1 < le
    · have e : bst (p :: l) (a, (le, true)) = bst l (p.1, (p.2.1, true)) := by
        show bst l _ = _
        simp only [Bool.not_true, dT c]
      rw [e]
      obtain ⟨i1, i2, i3, i4, i5⟩ := ih p.1 p.2.1 (fun q hq => hp1 q hq) hp2
      refine ⟨.inr ?_, by omega, fun h => by omega, by omega, fun q hq => ?_⟩
      · rcases i1 with ⟨j1, j2⟩ | ⟨q, hq, j1, j2⟩
        · exact ⟨p, by simp, j1, j2⟩
        · exact ⟨q, by simp [hq], j1, j2⟩
      · rcases List.mem_cons.1 hq with rfl | hq
        · exact ⟨i2, fun h => by have := i3 h; omega⟩
        · exact i5 q hq
    · have e : bst (p :: l) (a, (le, true)) = bst l (a, (le, true)) := by
        show bst l _ = _
        simp only [Bool.not_true, dF c]
      rw [e]
      obtain ⟨i1, i2, i3, i4, i5⟩ := ih a le (fun q hq => ha q (by simp [hq])) hp2
      refine ⟨?_, i2, i3, i4, fun q hq => ?_⟩
      · rcases i1 with j | ⟨q, hq, j1, j2⟩
        · exact .inl j
        · exact .inr ⟨q, by simp [hq], j1, j2⟩
      · rcases List.mem_cons.1 hq with rfl | hq
        · exact ⟨by omega, fun h => by have := i3 (by omega); omega⟩
        · exact i5 q hq
theorem cands_mem (x : (List (Int × (Int × Unit))) × (Int × (Int × Unit))) (k : List Int) : ∀ (m : Nat) (t : Int), (cands x k t m).Pairwise (fun p q => p.1 < q.1) ∧ ∀ p, p ∈ cands x k t m ↔ t ≤ p.1 ∧ p.1 < t + m ∧ p.1 ∉ k ∧ p = (p.1, (cn x k p.1, ())) := by
  intro m
  induction m with
  | zero => intro t; unfold cands; exact ⟨List.Pairwise.nil, fun p => ⟨fun h => (by cases h), fun h => (by omega)⟩⟩
  | succ m ih =>
    intro t
    obtain ⟨i1, i2⟩ := ih (t + 1)
    unfold cands
    split
    · next hm =>
      refine ⟨i1, fun p => (i2 p).trans ⟨fun h => ⟨by omega, by omega, h.2.2⟩, fun h => ⟨?_, by omega, h.2.2⟩⟩⟩
      have : p.1 ≠ t := fun e => h.2.2.1 (e ▸ hm)
      omega
    · next hm =>
      refine ⟨List.pairwise_cons.2 ⟨fun q hq => by have := ((i2 q).1 hq).1; omega, i1⟩, fun p => ?_⟩
      rw [List.mem_cons, i2]
      constructor
      · rintro (rfl | h)
        · exact ⟨by simp, by simp; omega, hm, rfl⟩
        · exact ⟨by omega, by omega, h.2.2⟩
      · rintro ⟨h1, h2, h3, h4⟩
        by_cases e : p.1 = t
        · left; rw [h4, e]
        · right; exact ⟨by omega, by omega, h3, h4⟩
theorem adds_least {x : (List (Int × (Int × Unit))) × (Int × (Int × Unit))} {k : List Int} {row : Int} (h1 : 0 ≤ row) (h2 : row < x.1.length) (hm : row ∉ k) :
    (addS x k).2.2 = true ∧ 0 ≤ (addS x k).1 ∧ (addS x k).1 < x.1.length ∧ (addS x k).1 ∉ k ∧ (addS x k).2.1 = cn x k (addS x k).1 ∧ (addS x k).2.1 ≤ cn x k row ∧ ((addS x k).2.1 = cn x k row → (addS x k).1 ≤ row) := by
  obtain ⟨c1, c2⟩ := cands_mem x k x.1.length 0
  have hr := (c2 (row, (cn x k row, ()))).2 ⟨h1, by dsimp only; omega, hm, rfl⟩
  have e0 : (addS x k).2.2 = true := by
    unfold addS
    rw [bst_met, Bool.false_or]
    refine dT ?_
    have : cands x k 0 x.1.length ≠ [] := fun h => by rw [h] at hr; cases hr
    have : 0 < (cands x k 0 x.1.length).length := by
      cases hc : cands x k 0 x.1.length with
      | nil => exact absurd hc this
      | cons _ _ => simp
    omega
  refine ⟨e0, ?_⟩
  unfold addS
  cases hc : cands x k 0 x.1.length with
  | nil => rw [hc] at hr; cases hr
  | cons p l =>
    rw [hc] at c1 c2 hr
    have e : bst (p :: l) (0, (0, false)) = bst l (p.1, (p.2.1, true)) := rfl
    rw [e]
    obtain ⟨i1, i2, i3, i4, i5⟩ := bst_least l p.1 p.2.1 (fun q hq => (List.pairwise_cons.1 c1).1 q hq) (List.pairwise_cons.1 c1).2
    have hin : ∃ q ∈ p :: l, (bst l (p.1, (p.2.1, true))).1 = q.1 ∧ (bst l (p.1, (p.2.1, true))).2.1 = q.2.1 := by
      rcases i1 with ⟨j1, j2⟩ | ⟨q, hq, j1, j2⟩
      · exact ⟨p, by simp, j1, j2⟩
      · exact ⟨q, by simp [hq], j1, j2⟩
    obtain ⟨q, hq, j1, j2⟩ := hin
    obtain ⟨k1, k2, k3, k4⟩ := (c2 q).1 hq
    have k5 : q.2.1 = cn x k q.1 := by rw [k4]
    refine ⟨by omega, by omega, by rw [j1]; exact k3, by rw [j1, j2, k5], ?_⟩
    rcases List.mem_cons.1 hr with h | h
    · rw [← h] at i2 i3 ⊢
      exact ⟨i2, fun h => by have := i3 h; dsimp only at this ⊢; omega⟩
    · have := i5 _ h
      exact this
end Go.V
