/- A part of the proof of a law of the step table. -/
import Derived.Test.YtpnilbemlgbokaaGreatDoorPM
set_option linter.all false
namespace Go.V
open Go.Proofs
abbrev TAB' := (List (Int × (Int × Unit))) × (Int × (Int × Unit))
theorem f54_at (x : TAB') (ht : Tb x) (k : List Int) (hk : Kp k x.1.length) : ∃ b, f54 (x, (k, ())) = .ret (b, (true, ())) ∧ (b = true ↔ dub x k = []) := by
  have kl := kp_len hk
  have tl := ht.1
  obtain ⟨w, e1, _, _, w1, w2, w3, _⟩ := words_at x ht k hk (by omega)
  refine ⟨(w == 3), ?_, by rw [beq_iff_eq]; exact w3⟩
  unfold f54 F54
  simp only [e1, eT (rfl : (0 : Int) = 0), dT (show w ≥ 1 by omega), dT (show w ≤ 3 by omega)]
theorem getD_repl0 (n : Nat) (j : Nat) : List.getD (List.replicate n (0 : Int)) j 0 = 0 := by
  rw [List.getD_eq_getElem?_getD, List.getElem?_replicate]
  split <;> rfl
theorem must_row (x : TAB') (y : List Int) (n : Int) (hy : Kp y n) (hn : n ≤ 13) (r : Bool) (ys : List (List Int)) (tv : List (Int × (Int × Unit))) (t1 t2 : Int) (all : Int) (B : Int → Int) (hB : ∀ j, 0 ≤ B j ∧ B j ≤ 100000) :
    ∀ (m f : Nat) (times : List Int) (i : Int), m < f → 0 ≤ i → i + m = y.length → (times.length : Int) = n →
      (∀ j : Int, 0 ≤ j → j < n → List.getD times j.toNat 0 = B j + (if j ∈ y.take i.toNat then 1 else 0)) →
      ∃ times', L56_2 fuel f (x, ()) y r ys tv t1 t2 times all i = R56_0 fuel ys (x, ()) r tv t1 t2 times' all ∧ (times'.length : Int) = n ∧ ∀ j : Int, 0 ≤ j → j < n → List.getD times' j.toNat 0 = B j + (if j ∈ y then 1 else 0) := by
  have yl := kp_len hy
  intro m
  induction m with
  | zero =>
    intro f times i hf hi he hl ht
    obtain ⟨f, rfl⟩ := succ_of hf
    rw [L56_2_succ]; try delta lenI
    simp (disch := omega) only [dF (show ¬ i < (y.length : Int) by omega)]
    have e : y.take i.toNat = y := List.take_of_length_le (by omega)
    rw [e] at ht
    exact ⟨times, rfl, hl, ht⟩
  | succ m ih =>
    intro f times i hf hi he hl ht
    obtain ⟨f, rfl⟩ := succ_of hf
    rw [L56_2_succ]; try delta lenI
    have rg := kp_range hy hi (show i < y.length by omega)
    have hi' : i.toNat < y.length := by omega
    have et : y.take (i + 1).toNat = y.take i.toNat ++ [List.getD y i.toNat 0] := by
      have : (i + 1).toNat = i.toNat + 1 := by omega
      rw [this, List.take_succ_eq_append_getElem hi', getD_lt hi']
    have hnot : List.getD y i.toNat 0 ∉ y.take i.toNat := by
      intro hm
      obtain ⟨q, hq, e⟩ := List.mem_iff_getElem.1 hm
      have hq' : q < i.toNat := by simp at hq; omega
      have : List.getD y (q : Int).toNat 0 = List.getD y i.toNat 0 := by
        rw [← e, List.getElem_take, Int.toNat_natCast, getD_lt (by omega)]
      have := kp_le hy (i := (q : Int)) (j := i) (by omega) (by omega) (by omega)
      omega
    have tv0 := ht (List.getD y i.toNat 0) rg.1 (by omega)
    rw [if_neg hnot] at tv0
    have hb := hB (List.getD y i.toNat 0)
    generalize hg : List.getD y i.toNat 0 = g at *
    have w : IntKind.i64.wrap (List.getD times g.toNat 0 + 1) = List.getD times g.toNat 0 + 1 := wr (by omega) (by omega)
    simp (disch := omega) only [dT (show i < (y.length : Int) by omega), inbT, cond_true, dT (show g.toNat < times.length by omega), w, wr]
    refine ih f _ (i + 1) (by omega) (by omega) (by omega) (by simpa using hl) fun j j1 j2 => ?_
    rw [getD_set0 _ _ _ _ (by omega), et]
    by_cases c : j = g
    · subst c
      rw [if_pos rfl, if_pos (List.mem_append.2 (.inr (List.mem_singleton.2 rfl))), tv0]
      omega
    · rw [if_neg (by omega), ht j j1 j2]
      congr 1
      have : (j ∈ y.take i.toNat ++ [g]) ↔ j ∈ y.take i.toNat := by simp [c]
      simp only [this]
def cntL (l : List (List Int)) (j : Int) : Int := ((l.filter (fun y => decide (j ∈ y))).length : Int)
theorem cntL_cons (y : List Int) (l : List (List Int)) (j : Int) : cntL (y :: l) j = (if j ∈ y then 1 else 0) + cntL l j := by
  unfold cntL
  rw [List.filter_cons]
  by_cases h : j ∈ y
  · simp [h]; omega
  · simp [h]
theorem cntL_le (l : List (List Int)) (j : Int) : 0 ≤ cntL l j ∧ cntL l j ≤ l.length ∧ (cntL l j = l.length ↔ ∀ y ∈ l, j ∈ y) := by
  induction l with
  | nil => unfold cntL; simp
  | cons y l ih =>
    rw [cntL_cons]
    obtain ⟨i1, i2, i3⟩ := ih
    rw [List.length_cons]
    by_cases h : j ∈ y
    · rw [if_pos h]
      refine ⟨by omega, by omega, ⟨fun e => ?_, fun e => ?_⟩⟩
      · intro z hz
        rcases List.mem_cons.1 hz with rfl | hz
        · exact h
        · exact i3.1 (by omega) z hz
      · have := i3.2 fun z hz => e z (by simp [hz])
        omega
    · rw [if_neg h]
      refine ⟨by omega, by omega, ⟨fun e => by omega, fun e => absurd (e y (by simp)) h⟩⟩
theorem must_end (n : Int) (hn : n ≤ 13) (all : Int) (times : List Int) (hl : (times.length : Int) = n) : ∃ o, L56_1 fuel fuel all times [] 0 = .ret (o, (0, ())) ∧ o = dl (fun j => (List.getD times j.toNat 0 == all)) 0 n.toNat := by
  have hf := fuel_big
  have key : ∀ (m f : Nat) (out : List Int) (i : Int), m < f → 0 ≤ i → i + m = n → (out.length : Int) ≤ i → L56_1 fuel f all times out i = .ret (out ++ dl (fun j => (List.getD times j.toNat 0 == all)) i m, (0, ())) := by
    intro m
    induction m with
    | zero =>
      intro f out i hf hi he ho
      obtain ⟨f, rfl⟩ := succ_of hf
      rw [L56_1_succ]; try delta lenI
      simp (disch := omega) only [dF (show ¬ i < (times.length : Int) by omega)]
      simp [dl]
    | succ m ih =>
      intro f out i hf hi he ho
      obtain ⟨f, rfl⟩ := succ_of hf
      rw [L56_1_succ]; try delta lenI
      simp (disch := omega) only [dT (show i < (times.length : Int) by omega), inbT, cond_true, wr]
      unfold dl
      cases (List.getD times i.toNat 0 == all)
      · exact ih f out (i + 1) (by omega) (by omega) (by omega) (by omega)
      · show (bif fits out [i] then _ else _) = _
        rw [fitsT (by simp; omega), cond_true, ih f (out ++ [i]) (i + 1) (by omega) (by omega) (by omega) (by simp; omega)]
        simp
  exact ⟨_, key n.toNat fuel [] 0 (by omega) (by omega) (by omega) (by simp), rfl⟩
theorem must_rows (x : TAB') (n : Int) (hn : n ≤ 13) (r : Bool) (tv : List (Int × (Int × Unit))) (t1 t2 : Int) : ∀ (l : List (List Int)) (all : Int) (times : List Int) (B : Int → Int), (∀ y ∈ l, Kp y n) → 0 ≤ all → all + l.length ≤ 100000 → (∀ j, 0 ≤ B j ∧ B j ≤ all) → (times.length : Int) = n →
    (∀ j : Int, 0 ≤ j → j < n → List.getD times j.toNat 0 = B j) →
    ∃ o, R56_0 fuel l (x, ()) r tv t1 t2 times all = .ret (o, (0, ())) ∧ o = dl (fun j => (B j + cntL l j == all + l.length)) 0 n.toNat := by
  have hfb := fuel_big
  intro l
  induction l with
  | nil =>
    intro all times B _ h0 h1 hB hl ht
    rw [R56_0_nil]
    obtain ⟨o, e1, e2⟩ := must_end n hn all times hl
    refine ⟨o, e1, e2.trans (dl_congr _ _ fun j j1 j2 => ?_)⟩
    rw [ht j j1 (by omega)]
    simp [cntL]
  | cons y l ih =>
    intro all times B hk h0 h1 hB hl ht
    rw [List.length_cons] at h1
    have hy := hk y (by simp)
    have yl := kp_len hy
    rw [R56_0_cons, wr (by omega) (by omega)]
    obtain ⟨times', q1, q2, q3⟩ := must_row x y n hy hn r l tv t1 t2 (all + 1) B (fun j => ⟨(hB j).1, by have := (hB j).2; omega⟩) y.length fuel times 0 (by omega) (by omega) (by omega) hl (fun j j1 j2 => by rw [ht j j1 j2]; simp)
    rw [q1]
    obtain ⟨o, e1, e2⟩ := ih (all + 1) times' (fun j => B j + (if j ∈ y then 1 else 0)) (fun z hz => hk z (by simp [hz])) (by omega) (by omega) (fun j => by have := hB j; (try dsimp only); split <;> omega) q2 q3
    refine ⟨o, e1, e2.trans (dl_congr _ _ fun j j1 j2 => ?_)⟩
    rw [cntL_cons, List.length_cons]
    try dsimp only
    rw [Bool.eq_iff_iff, beq_iff_eq, beq_iff_eq]
    constructor <;> intro h <;> omega
noncomputable def inAll (x : TAB') : List Int := dl (fun j => @decide (∀ y ∈ AL x, j ∈ y) (Classical.propDecidable _)) 0 x.1.length
theorem inAll_mem {x : TAB'} {j : Int} : j ∈ inAll x ↔ 0 ≤ j ∧ j < x.1.length ∧ ∀ y ∈ AL x, j ∈ y := by
  unfold inAll
  rw [dl_mem, @decide_eq_true_iff _ (Classical.propDecidable _)]
  constructor
  · rintro ⟨a, b, c⟩; exact ⟨a, by omega, c⟩
  · rintro ⟨a, b, c⟩; exact ⟨a, by omega, c⟩
theorem f56_at {x : TAB'} (ht : Tb x) : f56 (x, ()) = .ret (inAll x, (0, ())) := by
  have tl := ht.1
  have hl := AL_len x ht
  obtain ⟨b1, a1, a2⟩ := f77_at x
  obtain rfl : b1 = true := a2.2 ht
  obtain ⟨o, e1, e2⟩ := must_rows x x.1.length (by omega) true x.1 x.2.1 x.2.2.1 (AL x) 0 (List.replicate (x.1.length : Int).toNat (0 : Int)) (fun _ => 0) (fun y hy => ((AL_mem ht y).1 hy).1) (by omega) (by omega) (fun _ => by omega) (by simp) (fun j j1 j2 => getD_repl0 _ _)
  have mm : mayMake (x.1.length : Int) = true := by unfold mayMake; simp; omega
  have ez : (zeros (.int .i64) (x.1.length : Int) : List Int) = List.replicate (x.1.length : Int).toNat (0 : Int) := rfl
  have e3 : o = inAll x := by
    rw [e2]
    unfold inAll
    have en : (x.1.length : Int).toNat = x.1.length := by omega
    rw [en]
    refine dl_congr _ _ fun j j1 j2 => ?_
    rw [Bool.eq_iff_iff, beq_iff_eq, @decide_eq_true_iff _ (Classical.propDecidable _), ← (cntL_le (AL x) j).2.2]
    constructor <;> intro h <;> omega
  unfold f56 F56; try delta lenI
  simp only [a1, Bool.not_true, mm, cond_true, AL_at x ht]
  rw [← e3]
  exact e1
end Go.V
