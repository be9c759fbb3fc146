/- A part of the proof of a law of the step table. -/
import Derived.Test.YtpnilbemlgbokaaGreatDoorPT
set_option linter.all false
namespace Go.V
open Go.Proofs
def Wt (x : TABL) (k u : List Int) : Prop := Tru x u ∧ ∃ j : Int, 0 ≤ j ∧ j < x.1.length ∧ ¬ Ok x k u j
theorem wt_dub {x : TABL} {k u : List Int} (ht : Tb x) (hk : Kp k x.1.length) (h : Wt x k u) : ∃ j, j ∈ dub x k ∧ ¬ Ok x k u j := by
  obtain ⟨hu, j, j1, j2, j3⟩ := h
  have kl := kp_len hk
  have tl := ht.1
  exact ⟨j, Classical.byContradiction fun hd => j3 (sure_right ht hk (by omega) hu j1 j2 hd), j3⟩
theorem dub_row {x : TABL} {k : List Int} (ht : Tb x) (hk : Kp k x.1.length) {r : Int} (hr : r ∈ dub x k) :
    0 ≤ bef k r ∧ bef k r < r ∧ r < aft k r ∧ aft k r < x.1.length ∧ ∀ u, ¬ Ok x k u r ↔ Wr x (bef k r) r (aft k r) (List.getD u (bef k r).toNat 0) (List.getD u r.toNat 0) (List.getD u (aft k r).toNat 0) := by
  have kl := kp_len hk
  have tl := ht.1
  obtain ⟨r1, r2, r3⟩ := dub_mem.1 hr
  have to := ht.2.2.1
  have hm : r ∉ k := fun hm => by have := fa_kept (x := x) hk (by omega) hm; omega
  obtain ⟨e1, e2, e3⟩ := aro x hk (by omega) r1 (show r ≤ (x.1.length : Int) - 1 by omega)
  obtain ⟨c1, c2, c3, c4, c5, c6⟩ := ar_range hk e3
  obtain ⟨d1, d2⟩ := ar_out e3 hm
  refine ⟨c1, d1, d2, by omega, fun u => ?_⟩
  have e : Fi x.2.1 k r u = fig x.2.1 (bef k r) (aft k r) r (List.getD u (bef k r).toNat 0) (List.getD u (aft k r).toNat 0) := by
    unfold Fi; rw [if_neg (by omega)]
  unfold Ok Wr
  rw [e]
  constructor
  · intro h
    rcases Int.lt_or_le x.2.2.1 (fig x.2.1 (bef k r) (aft k r) r (List.getD u (bef k r).toNat 0) (List.getD u (aft k r).toNat 0) - List.getD u r.toNat 0) with q | q
    · exact .inl q
    · exact .inr (Int.not_le.1 fun q' => h ⟨q, q'⟩)
  · intro h q
    omega
theorem fig_ex (n : Nat) (F : Int → Int) : ∃ l : List Int, Fig l n F := by
  refine ⟨(List.range n).map fun j : Nat => F j, by simp, fun j j1 j2 => ?_⟩
  have h4 : j.toNat < n := by omega
  have e : ((j.toNat : Nat) : Int) = j := by omega
  rw [List.getD_eq_getElem?_getD, List.getElem?_map, List.getElem?_range h4]
  show F ((j.toNat : Nat) : Int) = _
  rw [e]
theorem t3_ex (x : TABL) (p r q a b c : Int) : ∃ o, T3 x p r q o a b c :=
  fig_ex x.1.length fun j => if j = p then a else if j = r then b else if j = q then c else (sp' x j).1
theorem t3_tru {x : TABL} (ht : Tb x) {p r q a b c : Int} {o : List Int} (h : T3 x p r q o a b c) (ha : (sp' x p).1 ≤ a ∧ a ≤ (sp' x p).2.1) (hb : (sp' x r).1 ≤ b ∧ b ≤ (sp' x r).2.1) (hc : (sp' x q).1 ≤ c ∧ c ≤ (sp' x q).2.1) : Tru x o := by
  refine ⟨by have := h.1; omega, fun j j1 j2 => ?_⟩
  have s := sp_small ht j1 j2
  rw [h.2 j j1 j2]
  show (sp' x j).1 ≤ _ ∧ _ ≤ (sp' x j).2.1
  split
  · next e => rw [e]; exact ha
  · split
    · next e => rw [e]; exact hb
    · split
      · next e => rw [e]; exact hc
      · omega
theorem dub_wrong {x : TABL} {k : List Int} (ht : Tb x) (hk : Kp k x.1.length) {r : Int} (hr : r ∈ dub x k) :
    ∃ a b c, ((sp' x (bef k r)).1 ≤ a ∧ a ≤ (sp' x (bef k r)).2.1) ∧ ((sp' x r).1 ≤ b ∧ b ≤ (sp' x r).2.1) ∧ ((sp' x (aft k r)).1 ≤ c ∧ c ≤ (sp' x (aft k r)).2.1) ∧ Wr x (bef k r) r (aft k r) a b c := by
  obtain ⟨c1, c2, c3, c4, _⟩ := dub_row ht hk hr
  obtain ⟨r1, r2, r3⟩ := dub_mem.1 hr
  have sb := sp_small ht c1 (show bef k r < x.1.length by omega)
  have sa := sp_small ht (show 0 ≤ aft k r by omega) c4
  have sr := sp_small ht r1 r2
  unfold Fa at r3
  rw [if_neg (by omega)] at r3
  unfold Of at r3
  split at r3
  · exact ⟨(sp' x (bef k r)).1, (sp' x r).2.1, (sp' x (aft k r)).1, ⟨by omega, by omega⟩, ⟨by omega, by omega⟩, ⟨by omega, by omega⟩, .inr (by omega)⟩
  · exact ⟨(sp' x (bef k r)).2.1, (sp' x r).1, (sp' x (aft k r)).2.1, ⟨by omega, by omega⟩, ⟨by omega, by omega⟩, ⟨by omega, by omega⟩, .inl (by omega)⟩
theorem wt_of_dub {x : TABL} {k : List Int} (ht : Tb x) (hk : Kp k x.1.length) {r : Int} (hr : r ∈ dub x k) : ∃ u, Wt x k u := by
  obtain ⟨c1, c2, c3, c4, c5⟩ := dub_row ht hk hr
  obtain ⟨r1, r2, _⟩ := dub_mem.1 hr
  obtain ⟨a, b, c, ha, hb, hc, hw⟩ := dub_wrong ht hk hr
  obtain ⟨o, ho⟩ := t3_ex x (bef k r) r (aft k r) a b c
  obtain ⟨g1, g2, g3⟩ := t3_get x c1 c2 c3 c4 ho
  exact ⟨o, t3_tru ht ho ha hb hc, r, r1, r2, (c5 o).2 (by rw [g1, g2, g3]; exact hw)⟩
theorem f136_at (x : TABL) (k : List Int) (ht : Tb x) : ∃ l, f136 ((x, (k, ((), ()))), ()) = .ret l ∧ Fig l x.1.length (fun j => (sp' x j).1) := by
  have hf := fuel_big
  have tl := ht.1
  exact figLoop (L := fun f out i => L136_0 fuel f ((x, (k, ((), ()))), ()) out i) (n := x.1.length) (by omega)
    (fun f out i h1 h2 h3 => by
      try dsimp only
      rw [L136_0_succ]; try delta lenI
      simp only [dT h2, (f138_at x k h1 h2).1, fitsT (show out.length + [(sp' x i).1].length < 1000000 by simp; omega), cond_true, wr (show -9223372036854775808 ≤ i + 1 by omega) (show i + 1 ≤ 9223372036854775807 by omega)])
    (fun f out => by
      try dsimp only
      rw [L136_0_succ]; try delta lenI
      simp only [dF (Int.lt_irrefl _)]) x.1.length fuel [] 0 (by omega) (by omega) (by omega) ⟨rfl, fun j a b => by omega⟩
theorem f95_at (x : TABL) (ht : Tb x) {k : List Int} (hk : Kp k x.1.length) {r : Int} (hr : r ∈ dub x k) :
    ∃ o, f95 ((x, (k, ((), ()))), (r, ())) = .ret o ∧ Tru x o ∧ ¬ Ok x k o r ∧ ∀ v, Tru x v → ¬ Ok x k v r → o = v ∨ bl o v := by
  have hfb := fuel_big
  have kl := kp_len hk
  have tl := ht.1
  obtain ⟨c1, c2, c3, c4, c5⟩ := dub_row ht hk hr
  obtain ⟨r1, r2, _⟩ := dub_mem.1 hr
  obtain ⟨e1, e2, e3⟩ := aro x hk (by omega) r1 (show r ≤ (x.1.length : Int) - 1 by omega)
  obtain ⟨l, l1, l2⟩ := f136_at x k ht
  have ll := l2.1
  have sb := sp_small ht c1 (show bef k r < x.1.length by omega)
  have sa := sp_small ht (show 0 ≤ aft k r by omega) c4
  have sr := sp_small ht r1 r2
  have h3 : T3 x (bef k r) r (aft k r) l (sp' x (bef k r)).1 (sp' x r).1 (sp' x (aft k r)).1 := by
    refine ⟨ll, fun j j1 j2 => ?_⟩
    rw [l2.2 j j1 j2]
    split
    · next e => rw [e]
    · split
      · next e => rw [e]
      · split
        · next e => rw [e]
        · rfl
  have h4 := t3_a x c1 c2 c3 c4 (a' := (sp' x (bef k r)).1) h3
  obtain ⟨a, b, c, ha, hb, hc, hw⟩ := dub_wrong ht hk hr
  obtain ⟨o, a', b', c', q1, q2, q3, q4, q5, q6, q7⟩ := a95_0 x ht k c1 c2 c3 c4 ((sp' x (bef k r)).2.1 - (sp' x (bef k r)).1 + 1).toNat fuel (sp' x (bef k r)).1 _ _ _ (by omega) (by omega) (by omega) h4 ⟨a, b, c, ha.1, ha.2, hb.1, hb.2, hc.1, hc.2, hw⟩
  obtain ⟨g1, g2, g3⟩ := t3_get x c1 c2 c3 c4 q2
  refine ⟨o, ?_, t3_tru ht q2 q3 q4 q5, (c5 o).2 (by rw [g1, g2, g3]; exact q6), fun v hv hvw => ?_⟩
  · unfold f95 F95
    simp only [e2, l1, inbT c1 (show bef k r < x.1.length by omega), inbT r1 r2, inbT (show 0 ≤ aft k r by omega) c4, inbT c1 (show bef k r < l.length by omega), dT (show (bef k r).toNat < l.length by omega), cond_true]
    exact q1
  · have hvr := (c5 v).1 hvw
    have hvl := hv.1
    have vb := hv.2 (bef k r) c1 (by omega)
    have vr := hv.2 r r1 r2
    have va := hv.2 (aft k r) (by omega) c4
    have ol := q2.1
    refine bl_of_le o v (by omega) fun i hi hsame => ?_
    have same : ∀ j : Int, 0 ≤ j → j < i → List.getD o j.toNat 0 = List.getD v j.toNat 0 := fun j j1 j2 => hsame j.toNat (by omega)
    have oi := q2.2 (i : Int) (by omega) (by omega)
    rw [Int.toNat_natCast] at oi
    have vi := hv.2 (i : Int) (by omega) (by omega)
    rw [Int.toNat_natCast] at vi
    by_cases e1 : (i : Int) = bef k r
    · rw [oi, if_pos e1]
      have : List.getD v i 0 = List.getD v (bef k r).toNat 0 := by congr 1; omega
      rw [this]
      refine Int.not_lt.1 fun hlt => ?_
      exact q7 _ _ _ vb.1 vr.1 vr.2 va.1 va.2 (.inl hlt) hvr
    · by_cases e2 : (i : Int) = r
      · rw [oi, if_neg e1, if_pos e2]
        have : List.getD v i 0 = List.getD v r.toNat 0 := by congr 1; omega
        rw [this]
        have s1 := same (bef k r) c1 (by omega)
        rw [g1] at s1
        refine Int.not_lt.1 fun hlt => ?_
        exact q7 _ _ _ vb.1 vr.1 vr.2 va.1 va.2 (.inr ⟨s1.symm, .inl hlt⟩) hvr
      · by_cases e3 : (i : Int) = aft k r
        · rw [oi, if_neg e1, if_neg e2, if_pos e3]
          have : List.getD v i 0 = List.getD v (aft k r).toNat 0 := by congr 1; omega
          rw [this]
          have s1 := same (bef k r) c1 (by omega)
          rw [g1] at s1
          have s2 := same r r1 (by omega)
          rw [g2] at s2
          refine Int.not_lt.1 fun hlt => ?_
          exact q7 _ _ _ vb.1 vr.1 vr.2 va.1 va.2 (.inr ⟨s1.symm, .inr ⟨s2.symm, hlt⟩⟩) hvr
        · rw [oi, if_neg e1, if_neg e2, if_neg e3]
          have vi1 : (sp' x (i : Int)).1 ≤ List.getD v i 0 := by
            unfold sp'; rw [Int.toNat_natCast]; exact vi.1
          exact vi1
def Pf (x : TABL) (k p : List Int) : Prop := Wt x k p ∧ ∀ v, Wt x k v → p = v ∨ bl p v
theorem pf_one {x : TABL} {k p p' : List Int} (h : Pf x k p) (h' : Pf x k p') : p = p' := by
  rcases h.2 p' h'.1 with e | e
  · exact e
  · rcases h'.2 p h.1 with e' | e'
    · exact e'.symm
    · exact absurd e' (bl_asymm _ _ e)
theorem best_b (l : List (List Int)) (hl : l.length ≤ 1000) (hs : ∀ y ∈ l, y.length ≤ 1000) : ∀ (m f : Nat) (out : List Int) (i : Int), m < f → 0 ≤ i → i + m = l.length →
    (0 < i → out ∈ l ∧ ∀ y ∈ l.take i.toNat, out = y ∨ bl out y) →
    ∃ o, L96b_0 fuel f (l, ((Value.func (.func 97) #[] #[]), ())) out i = .ret (o, (decide ((l.length : Int) > 0), ())) ∧ (0 < l.length → o ∈ l ∧ ∀ y ∈ l, o = y ∨ bl o y) := by
  intro m
  induction m with
  | zero =>
    intro f out i hf hi he ho
    obtain ⟨f, rfl⟩ := succ_of hf
    rw [L96b_0_succ]; try delta lenI
    simp (disch := omega) only [dF (show ¬ i < (l.length : Int) by omega)]
    refine ⟨out, rfl, fun h => ?_⟩
    have e : l.take i.toNat = l := List.take_of_length_le (by omega)
    have := ho (by omega)
    rw [e] at this
    exact this
  | succ m ih =>
    intro f out i hf hi he ho
    obtain ⟨f, rfl⟩ := succ_of hf
    rw [L96b_0_succ]; try delta lenI
    have hi' : i.toNat < l.length := by omega
    have eg : List.getD l i.toNat ([] : List Int) = l[i.toNat] := by
      rw [List.getD_eq_getElem?_getD, List.getElem?_eq_getElem hi']; rfl
    have hin : l[i.toNat] ∈ l := List.getElem_mem hi'
    have et : l.take (i + 1).toNat = l.take i.toNat ++ [l[i.toNat]] := by
      have : (i + 1).toNat = i.toNat + 1 := by omega
      rw [this, List.take_succ_eq_append_getElem hi']
    simp (disch := omega) only [dT (show i < (l.length : Int) by omega), inbT, cond_true, wr]
    rw [eg]
    by_cases c : i = 0
    · simp only [eT c]
      refine ih f _ (i + 1) (by omega) (by omega) (by omega) fun _ => ⟨hin, fun y hy => ?_⟩
      rw [et] at hy
      have : l.take i.toNat = [] := by rw [c]; rfl
      rw [this] at hy
      exact .inl (by simpa using hy : y = l[i.toNat]).symm
    · obtain ⟨o1, o2⟩ := ho (by omega)
      obtain ⟨b, z1, z2⟩ := f97_at l[i.toNat] out (hs _ hin) (hs _ o1)
      simp only [eF c, z1]
      cases b
      · refine ih f out (i + 1) (by omega) (by omega) (by omega) fun _ => ⟨o1, fun y hy => ?_⟩
        rw [et] at hy
        rcases List.mem_append.1 hy with hy | hy
        · exact o2 y hy
        · have hy' : y = l[i.toNat] := by simpa using hy
          rw [hy']
          rcases bl_total out l[i.toNat] with h | h | h
          · exact .inr h
          · exact .inl h
          · have := z2.2 h; cases this
      · have hb := z2.1 rfl
        refine ih f _ (i + 1) (by omega) (by omega) (by omega) fun _ => ⟨hin, fun y hy => ?_⟩
        rw [et] at hy
        rcases List.mem_append.1 hy with hy | hy
        · rcases o2 y hy with e | e
          · rw [← e]; exact .inr hb
          · exact .inr (bl_trans _ _ _ hb e)
        · exact .inl (by simpa using hy : y = l[i.toNat]).symm
theorem f42_at (x : TABL) (ht : Tb x) {k : List Int} (hk : Kp k x.1.length) :
    (dub x k = [] → f42 (x, (k, ())) = .ret ([], (5, ()))) ∧ (dub x k ≠ [] → ∃ p, f42 (x, (k, ())) = .ret (p, (0, ())) ∧ Pf x k p) := by
  have hfb := fuel_big
  have kl := kp_len hk
  have tl := ht.1
  have dlen := dub_len x k
  obtain ⟨b1, a1, a2⟩ := f77_at x
  obtain rfl : b1 = true := a2.2 ht
  obtain ⟨b2, a3, a4⟩ := f78_at x k (by omega) (by omega)
  obtain rfl : b2 = true := a4.2 hk
  have key : ∀ (m f : Nat) (l : List (List Int)) (i : Int), m < f → 0 ≤ i → i + m = (dub x k).length → (l.length : Int) = i → (∀ y ∈ l, Wt x k y) → (∀ j : Int, 0 ≤ j → j < i → ∀ v, Tru x v → ¬ Ok x k v (List.getD (dub x k) j.toNat 0) → ∃ y ∈ l, y = v ∨ bl y v) →
      ∃ l', (l'.length : Int) = (dub x k).length ∧ (∀ y ∈ l', Wt x k y) ∧ (∀ v, Wt x k v → ∃ y ∈ l', y = v ∨ bl y v) ∧
        ∀ r, f96b (l', ((Value.func (.func 97) #[] #[]), ())) = .ret r → L42_0 fuel f (x, (k, ())) (dub x k) l (dub x k) i = (match (!r.2.1) with | true => .ret ([], (5, ())) | false => .ret (r.1, (0, ()))) := by
    intro m
    induction m with
    | zero =>
      intro f l i hf hi he hl h1 h2
      obtain ⟨f, rfl⟩ := succ_of hf
      refine ⟨l, by omega, h1, fun v hv => ?_, fun r hr => ?_⟩
      · obtain ⟨j, j1, j2⟩ := wt_dub ht hk hv
        obtain ⟨q, q1, q2, rfl⟩ := mem_getD j1
        exact h2 q q1 (by omega) v hv.1 j2
      · rw [L42_0_succ]; try delta lenI
        simp only [dF (show ¬ i < ((dub x k).length : Int) by omega), hr]
        cases r.2.1 <;> rfl
    | succ m ih =>
      intro f l i hf hi he hl h1 h2
      obtain ⟨f, rfl⟩ := succ_of hf
      have hm := getD_mem hi (show i < (dub x k).length by omega)
      obtain ⟨r1, r2, _⟩ := dub_mem.1 hm
      obtain ⟨o, o1, o2, o3, o4⟩ := f95_at x ht hk hm
      obtain ⟨l', q1, q2, q3, q4⟩ := ih f (l ++ [o]) (i + 1) (by omega) (by omega) (by omega) (by simp; omega)
        (fun y hy => by
          rcases List.mem_append.1 hy with hy | hy
          · exact h1 y hy
          · rw [List.mem_singleton.1 hy]; exact ⟨o2, _, r1, r2, o3⟩)
        (fun j j1 j2 v hv hw => by
          by_cases e : j = i
          · subst e
            exact ⟨o, List.mem_append.2 (.inr (List.mem_singleton.2 rfl)), o4 v hv hw⟩
          · obtain ⟨y, y1, y2⟩ := h2 j j1 (by omega) v hv hw
            exact ⟨y, List.mem_append.2 (.inl y1), y2⟩)
      refine ⟨l', q1, q2, q3, fun r hr => ?_⟩
      rw [L42_0_succ]; try delta lenI
      simp only [dT (show i < ((dub x k).length : Int) by omega), inbT hi (show i < (dub x k).length by omega), cond_true, o1, fitsT (show l.length + [o].length < 1000000 by simp; omega), wr (show -9223372036854775808 ≤ i + 1 by omega) (show i + 1 ≤ 9223372036854775807 by omega)]
      exact q4 r hr
  obtain ⟨l', q1, q2, q3, q4⟩ := key (dub x k).length fuel [] 0 (by omega) (by omega) (by omega) rfl (fun y hy => by cases hy) (fun j j1 j2 => by omega)
  obtain ⟨o, e1, e2⟩ := best_b l' (by omega) (fun y hy => by have := (q2 y hy).1.1; omega) l'.length fuel [] 0 (by omega) (by omega) (by omega) (fun h => by omega)
  have e0 : f96b (l', ((Value.func (.func 97) #[] #[]), ())) = F96b fuel (l', ((Value.func (.func 97) #[] #[]), ())) := (q96b _).symm.trans (e96b fuel (l', ((Value.func (.func 97) #[] #[]), ())))
  have q5 := q4 _ (e0.trans e1)
  have e42 : f42 (x, (k, ())) = L42_0 fuel fuel (x, (k, ())) (dub x k) [] (dub x k) 0 := by
    unfold f42 F42
    simp only [a1, a3, Bool.not_true, f92_at x ht hk (show k.length ≤ 1000 by omega)]
  rw [e42, q5]
  constructor
  · intro hd
    rw [hd] at q1
    have : l'.length = 0 := by simpa using q1
    simp only [dF (show ¬ (l'.length : Int) > 0 by omega), Bool.not_false]
  · intro hd
    have := ne_len.1 hd
    simp only [dT (show (l'.length : Int) > 0 by omega), Bool.not_true]
    obtain ⟨o1, o2⟩ := e2 (by omega)
    refine ⟨o, rfl, q2 o o1, fun v hv => ?_⟩
    obtain ⟨y, y1, y2⟩ := q3 v hv
    rcases o2 y y1 with e | e
    · rw [e]; exact y2
    · rcases y2 with rfl | y2
      · exact .inr e
      · exact .inr (bl_trans _ _ _ e y2)
end Go.V
