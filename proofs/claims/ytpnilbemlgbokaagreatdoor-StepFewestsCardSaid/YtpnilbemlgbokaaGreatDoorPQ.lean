/- A part of the proof of a law of the step table. -/
import Derived.Test.YtpnilbemlgbokaaGreatDoorPO
set_option linter.all false
namespace Go.V
open Go.Proofs
noncomputable def PR (x : TAB') (most : Int) (now : List Int) (t : Int) : Bool := decide ((now.length : Int) < most) && su x (lst now) t
theorem tr_none {g : List Int → List (List Int)} {P : List Int → Int → Bool} {now : List Int} (h : ∀ t, P now t = false) : ∀ (m : Nat) (t : Int), tr g P now m t = [] := by
  intro m
  induction m with
  | zero => intro t; rfl
  | succ m ih => intro t; rw [tr_succ, h, ih]; rfl
theorem lst_eq (l : List Int) : List.getD l ((l.length : Int) - 1).toNat 0 = lst l := by
  have : ((l.length : Int) - 1).toNat = l.length - 1 := by omega
  rw [this]
theorem f106_at (x : TAB') (ht : Tb x) (most : Int) : ∀ (f : Nat) (now : List Int), 1 ≤ now.length → 0 ≤ lst now → lst now ≤ (x.1.length : Int) - 1 → (x.1.length : Int) - 1 - lst now < f → (now.length : Int) + (x.1.length - lst now) ≤ 1000 →
    f106r f (x, (now, (most, ()))) = .ret ((tl (PR x most) x.1.length f now).map (now ++ ·)) := by
  have tl0 := ht.1
  have hfb := fuel_big
  intro f
  induction f with
  | zero => intro now _ _ _ h _; omega
  | succ f ih =>
    intro now h1 h2 h3 h4 h5
    have wl : IntKind.i64.wrap ((now.length : Int) - 1) = (now.length : Int) - 1 := wr (by omega) (by omega)
    have wn : IntKind.i64.wrap ((x.1.length : Int) - 1) = (x.1.length : Int) - 1 := wr (by omega) (by omega)
    have key : ∀ (m g : Nat) (out : List (List Int)) (t : Int), m < g → lst now < t → t + m = x.1.length → (out.length : Int) ≤ 4096 * t →
        L106_0 (f106r f) fuel g (x, (now, (most, ()))) out t = .ret (out ++ (tr (tl (PR x most) x.1.length f) (PR x most) now m t).map (now ++ ·)) := by
      intro m
      induction m with
      | zero =>
        intro g out t hg h1' h2' ho
        obtain ⟨g, rfl⟩ := succ_of hg
        rw [L106_0_succ]; try delta lenI
        simp (disch := omega) only [dF (show ¬ t < (x.1.length : Int) by omega)]
        simp [tr]
      | succ m ihm =>
        intro g out t hg h1' h2' ho
        obtain ⟨g, rfl⟩ := succ_of hg
        rw [L106_0_succ]; try delta lenI
        by_cases c : (now.length : Int) < most
        · have e107 := f107_at x ht h2 h1' (show t < (x.1.length : Int) by omega)
          simp only [dT (show t < (x.1.length : Int) by omega), dT c, wl, lst_eq, e107, wr (show -9223372036854775808 ≤ t + 1 by omega) (show t + 1 ≤ 9223372036854775807 by omega)]
          have eP : PR x most now t = su x (lst now) t := by unfold PR; rw [dT c]; rfl
          rw [tr_succ, eP]
          cases hs : su x (lst now) t
          · exact ihm g out (t + 1) (by omega) (by omega) (by omega) (by omega)
          · have i2 := ih (now ++ [t]) (by simp) (by rw [lst_snoc]; omega) (by rw [lst_snoc]; omega) (by rw [lst_snoc]; omega) (by rw [lst_snoc]; simp; omega)
            have ln : (tl (PR x most) x.1.length f (now ++ [t])).length ≤ 4096 := Nat.le_trans (tl_len _ _) (two_le (e := 12) (by rw [lst_snoc]; omega))
            have g1 : fits ([] : List Int) now = true := fitsT (by simp; omega)
            have g2 : fits now [t] = true := fitsT (by simp; omega)
            have g3 : fits out ((tl (PR x most) x.1.length f (now ++ [t])).map ((now ++ [t]) ++ ·)) = true := fitsT (by rw [List.length_map]; omega)
            simp only [g1, g2, cond_true, i2, g3]
            rw [ihm g _ (t + 1) (by omega) (by omega) (by omega) (by rw [List.length_append, List.length_map]; omega)]
            congr 1
            rw [List.map_append, List.map_map, List.append_assoc]
            congr 2
            refine List.map_congr_left fun a _ => ?_
            simp
        · simp only [dT (show t < (x.1.length : Int) by omega), dF c]
          rw [tr_none fun t => by unfold PR; rw [dF c]; rfl]
          simp
    show F106 (f106r f) fuel (x, (now, (most, ()))) = _
    unfold F106; try delta lenI
    simp only [wl, wn, lst_eq, inbT (show 0 ≤ (now.length : Int) - 1 by omega) (show (now.length : Int) - 1 < now.length by omega), cond_true]
    unfold tl
    by_cases h : lst now = (x.1.length : Int) - 1
    · simp only [dT h, eT h]
      simp
    · simp only [dF h, eF h, wr (show -9223372036854775808 ≤ lst now + 1 by omega) (show lst now + 1 ≤ 9223372036854775807 by omega)]
      have := key ((x.1.length : Int) - 1 - lst now).toNat fuel [] (lst now + 1) (by omega) (by omega) (by omega) (by rw [List.length_nil]; omega)
      simpa using this
theorem path_pr {x : TAB'} {n most : Int} : ∀ (ts now : List Int), Path (PR x most) n now ts ↔ Path (PP x) n now ts ∧ (ts = [] ∨ (now.length : Int) + ts.length ≤ most)
  | [], now => ⟨fun h => ⟨h, .inl rfl⟩, fun h => h.1⟩
  | t :: ts, now => by
    have h := path_pr (x := x) (n := n) (most := most) ts (now ++ [t])
    have e : ∀ z : Int, ((now ++ [t]).length : Int) + z = (now.length : Int) + (z + 1) := fun z => by simp; omega
    constructor
    · rintro ⟨q1, q2, q3, q4, q5⟩
      have q4' : (decide ((now.length : Int) < most) && su x (lst now) t) = true := q4
      rw [Bool.and_eq_true, decide_eq_true_eq] at q4'
      obtain ⟨z1, z2⟩ := h.1 q5
      refine ⟨⟨q1, q2, q3, q4'.2, z1⟩, .inr ?_⟩
      rcases z2 with rfl | z2
      · simp; omega
      · rw [e] at z2; simpa using z2
    · rintro ⟨⟨q1, q2, q3, q4, q5⟩, z⟩
      have z' : (now.length : Int) + (ts.length + 1) ≤ most := by
        rcases z with z | z
        · cases z
        · simpa using z
      refine ⟨q1, q2, q3, ?_, h.2 ⟨q5, .inr (by rw [e]; exact z')⟩⟩
      show (decide ((now.length : Int) < most) && su x (lst now) t) = true
      rw [Bool.and_eq_true, decide_eq_true_eq]
      exact ⟨by omega, q4⟩
theorem lists_at {x : TAB'} (ht : Tb x) (most : Int) : f106 (x, ([0], (most, ()))) = .ret ((AL x).filter (fun y => decide ((y.length : Int) ≤ most))) := by
  have hfb := fuel_big
  have t1 := ht.1
  have e : f106 (x, ([0], (most, ()))) = .ret ((tl (PR x most) x.1.length fuel [0]).map ([0] ++ ·)) :=
    f106_at x ht most fuel [0] (by simp) (by show (0 : Int) ≤ 0; omega) (by show (0 : Int) ≤ _; omega) (by show _ - (0 : Int) < _; omega) (by show (1 : Int) + (_ - 0) ≤ 1000; omega)
  rw [e]
  congr 1
  refine sorted_ext (List.pairwise_map.2 ((tl_sorted _ _).imp fun h => bl_app [0] h)) ((AL_sorted x).filter _) fun k => ?_
  rw [List.mem_filter, decide_eq_true_eq, AL_mem ht, List.mem_map]
  have hm : ∀ ts, ts ∈ tl (PR x most) x.1.length fuel [0] ↔ (Kp (0 :: ts) x.1.length ∧ dub x (0 :: ts) = []) ∧ (ts = [] ∨ (1 : Int) + ts.length ≤ most) := fun ts => by
    rw [tl_mem _ _ _ (by show (0 : Int) ≤ _; omega) (by show _ - (0 : Int) < _; omega), path_pr, path_ch, ← ch_kp ht]
    rfl
  constructor
  · rintro ⟨ts, h1, rfl⟩
    obtain ⟨h2, h3⟩ := (hm ts).1 h1
    refine ⟨h2, ?_⟩
    rcases h3 with rfl | h3
    · have := h2.1.1; simp at this
    · simp; omega
  · rintro ⟨h, hl⟩
    cases k with
    | nil => have := h.1.1; simp at this
    | cons a ts =>
      have ha : a = 0 := h.1.2.1
      subst ha
      exact ⟨ts, (hm ts).2 ⟨h, .inr (by simp at hl; omega)⟩, rfl⟩
theorem kp_full {k : List Int} {n : Int} (hk : Kp k n) (h : (k.length : Int) = n) {j : Int} (h1 : 0 ≤ j) (h2 : j < n) : List.getD k j.toNat 0 = j := by
  have a := kp_range hk h1 (show j < k.length by omega)
  have b := kp_le hk (i := j) (j := (k.length : Int) - 1) h1 (by omega) (by omega)
  rw [hk.2.2.1] at b
  omega
theorem f57_at {x : TAB'} (ht : Tb x) {k : List Int} (hk : Few x k) : f57 (x, ()) = .ret (As x k) := by
  have hfb := fuel_big
  have t1 := ht.1
  obtain ⟨kk, kd⟩ := (AL_mem ht k).1 hk.1
  have kl := kp_len kk
  have kl2 := kk.1
  have key : ∀ (m f : Nat) (i : Int), m < f → 2 ≤ i → i + m = x.1.length → i ≤ k.length → L57_0 fuel f (x, ()) i = .ret (As x k) := by
    intro m
    induction m with
    | zero =>
      intro f i hf hi he hik
      obtain ⟨f, rfl⟩ := succ_of hf
      rw [L57_0_succ]; try delta lenI
      obtain ⟨l, e1, e2, e3⟩ := AL_full ht
      simp only [dF (show ¬ i < (x.1.length : Int) by omega), e1]
      congr 1
      obtain ⟨l1, l2⟩ := (AL_mem ht l).1 e2
      have ll := kp_len l1
      have lm := (hk.2 l e2).1
      refine sorted_ext (List.pairwise_cons.2 ⟨fun a ha => (by cases ha), List.Pairwise.nil⟩) ((AL_sorted x).filter _) fun y => ?_
      unfold As
      rw [List.mem_singleton, List.mem_filter, beq_iff_eq]
      constructor
      · rintro rfl
        exact ⟨e2, by omega⟩
      · rintro ⟨y1, y2⟩
        obtain ⟨y3, _⟩ := (AL_mem ht y).1 y1
        refine ext0 (by omega) fun j j1 j2 => ?_
        rw [kp_full y3 (by omega) j1 (by omega), kp_full l1 (by omega) j1 (by omega)]
    | succ m ih =>
      intro f i hf hi he hik
      obtain ⟨f, rfl⟩ := succ_of hf
      rw [L57_0_succ]; try delta lenI
      simp (disch := omega) only [dT (show i < (x.1.length : Int) by omega), lists_at ht i, wr]
      by_cases c : i = k.length
      · have e : (AL x).filter (fun y => decide ((y.length : Int) ≤ i)) = As x k := by
          unfold As
          refine List.filter_congr fun y hy => ?_
          have := (hk.2 y hy).1
          rw [Bool.eq_iff_iff, decide_eq_true_eq, beq_iff_eq]
          constructor <;> intro h <;> omega
        have hm : k ∈ As x k := List.mem_filter.2 ⟨hk.1, by simp⟩
        have hp : ((As x k).length : Int) > 0 := by
          have := List.length_pos_of_mem hm
          omega
        rw [e]
        simp only [dT hp]
      · have e : (AL x).filter (fun y => decide ((y.length : Int) ≤ i)) = [] := by
          refine List.filter_eq_nil_iff.2 fun y hy => ?_
          have := (hk.2 y hy).1
          rw [decide_eq_true_eq]; omega
        rw [e]
        show L57_0 fuel f (x, ()) (i + 1) = _
        exact ih f (i + 1) (by omega) (by omega) (by omega) (by omega)
  exact key (x.1.length - 2) fuel 2 (by omega) (by omega) (by omega) (by omega)
noncomputable def fbB (x : TAB') (a : Int) : Nat → Int → Bool
  | 0, _ => false
  | m + 1, b => su x a b || fbB x a m (b + 1)
noncomputable def faB (x : TAB') (r : Int) : Nat → Int → Bool
  | 0, _ => false
  | m + 1, a => fbB x a (x.1.length - r - 1).toNat (r + 1) || faB x r m (a + 1)
theorem faB_succ (x : TAB') (r : Int) (m : Nat) (a : Int) : faB x r (m + 1) a = (fbB x a (x.1.length - r - 1).toNat (r + 1) || faB x r m (a + 1)) := rfl
theorem fbB_iff (x : TAB') (a : Int) : ∀ (m : Nat) (b : Int), fbB x a m b = true ↔ ∃ c, b ≤ c ∧ c < b + m ∧ su x a c = true := by
  intro m
  induction m with
  | zero => intro b; exact ⟨fun h => (by cases h), fun ⟨c, h1, h2, _⟩ => (by omega)⟩
  | succ m ih =>
    intro b
    unfold fbB
    rw [Bool.or_eq_true, ih]
    constructor
    · rintro (h | ⟨c, h1, h2, h3⟩)
      · exact ⟨b, by omega, by omega, h⟩
      · exact ⟨c, by omega, by omega, h3⟩
    · rintro ⟨c, h1, h2, h3⟩
      by_cases e : c = b
      · subst e; exact .inl h3
      · exact .inr ⟨c, by omega, by omega, h3⟩
theorem faB_iff (x : TAB') (r : Int) : ∀ (m : Nat) (a : Int), faB x r m a = true ↔ ∃ b c, a ≤ b ∧ b < a + m ∧ r < c ∧ c < r + 1 + (x.1.length - r - 1).toNat ∧ su x b c = true := by
  intro m
  induction m with
  | zero => intro b; exact ⟨fun h => (by cases h), fun ⟨c, _, h1, h2, _⟩ => (by omega)⟩
  | succ m ih =>
    intro a
    unfold faB
    rw [Bool.or_eq_true, ih, fbB_iff]
    constructor
    · rintro (⟨c, h1, h2, h3⟩ | ⟨b, c, h1, h2, h3⟩)
      · exact ⟨a, c, by omega, by omega, by omega, h2, h3⟩
      · exact ⟨b, c, by omega, by omega, h3⟩
    · rintro ⟨b, c, h1, h2, h3, h4, h5⟩
      by_cases e : b = a
      · subst e; exact .inl ⟨c, by omega, h4, h5⟩
      · exact .inr ⟨b, c, by omega, by omega, h3, h4, h5⟩
section
variable (x : TAB') (ht : Tb x)
include ht in
theorem l58_2 (n0 n1 : Nat) (r a : Int) (r0 : 0 ≤ a) (ar : a < r) (out : List Int) : ∀ (m f : Nat) (free : Bool) (b : Int), m < f → r < b → b + m = x.1.length →
    L58_2 fuel n0 n1 f (x, ()) r a out free b = L58_1 fuel n0 n1 (x, ()) r out (free || fbB x a m b) (a + 1) := by
  have tl := ht.1
  intro m
  induction m with
  | zero =>
    intro f free b hf hb he
    obtain ⟨f, rfl⟩ := succ_of hf
    rw [L58_2_succ]; try delta lenI
    simp (disch := omega) only [dF (show ¬ b < (x.1.length : Int) by omega), wr]
    unfold fbB
    rw [Bool.or_false]
  | succ m ih =>
    intro f free b hf hb he
    obtain ⟨f, rfl⟩ := succ_of hf
    rw [L58_2_succ]; try delta lenI
    simp (disch := omega) only [dT (show b < (x.1.length : Int) by omega), wr, f107_at x ht r0 (show a < b by omega) (show b < (x.1.length : Int) by omega)]
    unfold fbB
    cases free
    · show L58_2 fuel n0 n1 f (x, ()) r a out (su x a b) (b + 1) = _
      rw [ih f _ (b + 1) (by omega) (by omega) (by omega), Bool.false_or]
    · show L58_2 fuel n0 n1 f (x, ()) r a out true (b + 1) = _
      rw [ih f _ (b + 1) (by omega) (by omega) (by omega), Bool.true_or, Bool.true_or]
include ht in
theorem l58_1 (n0 : Nat) (r : Int) (r0 : 0 ≤ r) (r1 : r < x.1.length) (out : List Int) (ho : out.length ≤ 1000) : ∀ (m f : Nat) (free : Bool) (a : Int), m < f → 0 ≤ a → a + m = r →
    L58_1 fuel n0 f (x, ()) r out free a = L58_0 fuel n0 (x, ()) (if !(free || faB x r m a) then out ++ [r] else out) (r + 1) := by
  have hfb := fuel_big
  have tl := ht.1
  intro m
  induction m with
  | zero =>
    intro f free a hf ha he
    obtain ⟨f, rfl⟩ := succ_of hf
    rw [L58_1_succ]; try delta lenI
    simp (disch := omega) only [dF (show ¬ a < r by omega), wr, fitsT (show out.length + [r].length < 1000000 by simp; omega), cond_true]
    unfold faB
    rw [Bool.or_false]
    cases free <;> rfl
  | succ m ih =>
    intro f free a hf ha he
    obtain ⟨f, rfl⟩ := succ_of hf
    rw [L58_1_succ]; try delta lenI
    simp (disch := omega) only [dT (show a < r by omega), wr]
    rw [l58_2 x ht n0 f r a ha (by omega) out (x.1.length - r - 1).toNat fuel free (r + 1) (by omega) (by omega) (by omega), ih f _ (a + 1) (by omega) (by omega) (by omega)]
    rw [faB_succ, Bool.or_assoc]
def skipL (a c : Int) (len : Nat) : List Int := (List.range len).map fun j : Nat => if (j : Int) ≤ a then (j : Int) else j + (c - a - 1)
theorem skip_get (a c : Int) (len : Nat) {j : Int} (h1 : 0 ≤ j) (h2 : j < len) : List.getD (skipL a c len) j.toNat 0 = if j ≤ a then j else j + (c - a - 1) := by
  have h4 : j.toNat < len := by omega
  have e : ((j.toNat : Nat) : Int) = j := by omega
  rw [List.getD_eq_getElem?_getD]
  unfold skipL
  rw [List.getElem?_map, List.getElem?_range h4]
  show (if ((j.toNat : Nat) : Int) ≤ a then ((j.toNat : Nat) : Int) else ((j.toNat : Nat) : Int) + (c - a - 1)) = _
  rw [e]
include ht in
theorem must_iff {r : Int} (r0 : 0 ≤ r) (r1 : r < x.1.length) : (∀ y ∈ AL x, r ∈ y) ↔ ¬ ∃ a c, 0 ≤ a ∧ a < r ∧ r < c ∧ c < x.1.length ∧ su x a c = true := by
  have tl := ht.1
  constructor
  · rintro h ⟨a, c, a0, a1, c0, c1, hs⟩
    have hlen : ((skipL a c ((x.1.length : Int) - (c - a - 1)).toNat).length : Int) = x.1.length - (c - a - 1) := by unfold skipL; simp; omega
    have hg : ∀ j : Int, 0 ≤ j → j < x.1.length - (c - a - 1) → List.getD (skipL a c ((x.1.length : Int) - (c - a - 1)).toNat) j.toNat 0 = if j ≤ a then j else j + (c - a - 1) := fun j j1 j2 => skip_get a c _ j1 (by omega)
    generalize skipL a c ((x.1.length : Int) - (c - a - 1)).toNat = l at hlen hg
    have hk : Kp l x.1.length := by
      refine ⟨by omega, ?_, ?_, fun j j1 j2 => ?_⟩
      · have := hg 0 (by omega) (by omega)
        rw [Int.toNat_zero] at this
        rw [this, if_pos a0]
      · rw [hg _ (by omega) (by omega), if_neg (by omega)]; omega
      · rw [hg _ (by omega) (by omega), hg _ (by omega) (by omega)]
        split <;> split <;> omega
    have hd : dub x l = [] := (dub_nil ht hk).2 fun j j1 j2 => by
      rw [hg _ (by omega) (by omega), hg _ (by omega) (by omega)]
      by_cases q1 : j ≤ a
      · rw [if_pos (by omega), if_pos q1]
        exact su_iff.2 fun z z1 z2 => by omega
      · by_cases q2 : j - 1 ≤ a
        · rw [if_pos q2, if_neg q1]
          have e1 : j - 1 = a := by omega
          have e2 : j + (c - a - 1) = c := by omega
          rw [e1, e2]; exact hs
        · rw [if_neg q2, if_neg q1]
          exact su_iff.2 fun z z1 z2 => by omega
    have hm := h l ((AL_mem ht l).2 ⟨hk, hd⟩)
    obtain ⟨q, q1, q2, q3⟩ := mem_getD hm
    rw [hg q q1 (by omega)] at q3
    split at q3 <;> omega
  · intro h y hy
    obtain ⟨yk, yd⟩ := (AL_mem ht y).1 hy
    have yl := kp_len yk
    refine Classical.byContradiction fun hm => h ?_
    obtain ⟨i, b, _, _, e2⟩ := at_of yk (by omega) r0 (show r ≤ (x.1.length : Int) - 1 by omega)
    obtain ⟨i0, i1, lo, hi⟩ := e2 hm
    have g1 := kp_range yk (show 0 ≤ i - 1 by omega) (show i - 1 < y.length by omega)
    have g2 := kp_range yk (show 0 ≤ i by omega) i1
    exact ⟨_, _, g1.1, lo (i - 1) (by omega) (by omega), hi i (by omega) i1, by omega, (dub_nil ht yk).1 yd i (by omega) i1⟩
include ht in
theorem f58_at : f58 (x, ()) = .ret (inAll x) := by
  have hfb := fuel_big
  have tl := ht.1
  have key := dlLoop (L := fun f out i => L58_0 fuel f (x, ()) out i) (n := x.1.length) (by omega) (fun r => !(faB x r r.toNat 0))
    (fun f out i h1 h2 h3 => by
      try dsimp only
      rw [L58_0_succ]; try delta lenI
      simp only [dT h2]
      rw [l58_1 x ht f i h1 h2 out (by omega) i.toNat fuel false 0 (by omega) (by omega) (by omega), Bool.false_or])
    (fun f out => by
      try dsimp only
      rw [L58_0_succ]; try delta lenI
      simp only [dF (Int.lt_irrefl _)]) x.1.length fuel [] 0 (by omega) (by omega) (by omega) (by simp)
  have e : dl (fun r => !(faB x r r.toNat 0)) 0 x.1.length = inAll x := by
    unfold inAll
    refine dl_congr _ _ fun r r1 r2 => ?_
    rw [Bool.eq_iff_iff, @decide_eq_true_iff _ (Classical.propDecidable _), must_iff x ht r1 (by omega), Bool.not_eq_true', ← Bool.not_eq_true, faB_iff]
    refine not_congr ⟨?_, ?_⟩
    · rintro ⟨b, c, q1, q2, q3, q4, q5⟩; exact ⟨b, c, q1, by omega, q3, by omega, q5⟩
    · rintro ⟨b, c, q1, q2, q3, q4, q5⟩; exact ⟨b, c, q1, by omega, q3, by omega, q5⟩
  rw [← e]
  exact key
end
end Go.V
