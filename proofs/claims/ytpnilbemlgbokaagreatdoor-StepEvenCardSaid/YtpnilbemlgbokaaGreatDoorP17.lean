/- A part of the proof of a law of the step table. -/
import Derived.Test.YtpnilbemlgbokaaGreatDoorS8
import Derived.Test.YtpnilbemlgbokaaGreatDoorSL17
import Derived.Test.YtpnilbemlgbokaaGreatDoorPM
set_option linter.all false
namespace Go.V
open Go.Proofs
def Ev (x : (List (Int × (Int × Unit))) × (Int × (Int × Unit))) (a d : Int) : Prop := x.2.2.1 = 0 ∧ ∀ j : Int, 0 ≤ j → j < x.1.length → (sp' x j).1 = a + j * d ∧ (sp' x j).2.1 = a + j * d
theorem ev_of {x : (List (Int × (Int × Unit))) × (Int × (Int × Unit))} {a d : Int} (ht : Tb x) (h : Ev x a d) {row : Int} (r1 : 0 ≤ row) (r2 : row < x.1.length) : Fa x [0, (x.1.length : Int) - 1] row = 0 := by
  have tl := ht.1
  have hk : Kp [0, (x.1.length : Int) - 1] x.1.length := by
    refine ⟨by simp, rfl, rfl, fun j h1 h2 => ?_⟩
    have : j = 1 := by simp at h2; omega
    subst this
    show (0 : Int) < (x.1.length : Int) - 1
    omega
  by_cases hm : row ∈ [0, (x.1.length : Int) - 1]
  · exact fa_kept hk (by simp) hm
  · have fb := (fi_between (r := x.2.1) (u := []) (w := 0) (row := row) hk (by simp) (by omega) (by simp) (show (0 : Int) ≤ row from r1) (show row ≤ (x.1.length : Int) - 1 by omega)).2 hm
    have fb1 : bef [0, (x.1.length : Int) - 1] row = 0 := fb.1
    have fb2 : aft [0, (x.1.length : Int) - 1] row = (x.1.length : Int) - 1 := fb.2
    obtain ⟨s1, s2⟩ := h.2 row r1 r2
    obtain ⟨z1, z2⟩ := h.2 0 (by omega) (by omega)
    obtain ⟨y1, y2⟩ := h.2 ((x.1.length : Int) - 1) (by omega) (by omega)
    have e : fig x.2.1 0 ((x.1.length : Int) - 1) row (a + 0 * d) (a + ((x.1.length : Int) - 1) * d) = a + row * d := by
      refine rd_self (by omega) _ ?_
      generalize (x.1.length : Int) - 1 = m
      have k1 : (a + row * d) * (m - 0) = a * m + row * d * m := by rw [Int.sub_zero, Int.add_mul]
      have k2 : (a + 0 * d) * (m - row) = a * m - a * row := by rw [Int.zero_mul, Int.add_zero, Int.mul_sub]
      have k3 : (a + m * d) * (row - 0) = a * row + m * d * row := by rw [Int.sub_zero, Int.add_mul]
      have k4 : row * d * m = m * d * row := by rw [Int.mul_comm (row * d) m, Int.mul_comm row d, Int.mul_assoc]
      rw [k1, k2, k3, k4]; omega
    unfold Fa Of
    rw [fb1, fb2, if_neg (by omega), z1, z2, y1, y2, e, s1, s2, if_neg (by omega)]
    omega
theorem law17_tab (x : (List (Int × (Int × Unit))) × (Int × (Int × Unit))) {a d : Int} (ht : Tb x) (h : Ev x a d) :
    f53 (x, ()) = .ret ([0, (x.1.length : Int) - 1], (0, ())) ∧ f49 (x, ()) = .ret ((x.1.length : Int) - 1, (0, ())) ∧ f43 (x, ([0, (x.1.length : Int) - 1], ())) = .ret (0, (0, ())) := by
  have hfb := fuel_big
  have tl := ht.1
  have hk : Kp [0, (x.1.length : Int) - 1] x.1.length := by
    refine ⟨by simp, rfl, rfl, fun j h1 h2 => ?_⟩
    have : j = 1 := by simp at h2; omega
    subst this
    show (0 : Int) < (x.1.length : Int) - 1
    omega
  have hd : dub x [0, (x.1.length : Int) - 1] = [] := by
    cases hd : dub x [0, (x.1.length : Int) - 1] with
    | nil => rfl
    | cons j l =>
      obtain ⟨j1, j2, j3⟩ := dub_mem.1 (show j ∈ dub x [0, (x.1.length : Int) - 1] by rw [hd]; simp)
      rw [ev_of ht h j1 j2, h.1] at j3
      omega
  have hin := (AL_mem ht _).2 ⟨hk, hd⟩
  refine ⟨?_, ?_, ?_⟩
  · obtain ⟨k, _, f2, f3⟩ := few_of ht
    obtain ⟨kk, _⟩ := (AL_mem ht k).1 f2.1
    have le : k.length ≤ 2 := (f2.2 _ hin).1
    have ge := kk.1
    have e : k = [0, (x.1.length : Int) - 1] := by
      match k, le, ge, kk with
      | [a, b], _, _, kk =>
        have h1 : a = 0 := kk.2.1
        have h2 : b = (x.1.length : Int) - 1 := kk.2.2.1
        rw [h1, h2]
      | [], _, ge, _ => simp at ge
      | [_], _, ge, _ => simp at ge
      | _ :: _ :: _ :: _, le, _, _ => simp at le
    rw [f3, e]
  · obtain ⟨w, l, q1, _, q3, q4, q5, _, _, _, q9⟩ := widest x ht
    obtain ⟨j, hj⟩ : ∃ j, fuel = j + 1 + 1 := ⟨fuel - 2, by omega⟩
    have wn : IntKind.i64.wrap ((x.1.length : Int) - 1) = (x.1.length : Int) - 1 := wr (by omega) (by omega)
    have e102 : f102 (x, ((x.1.length : Int) - 1, ())) = .ret [0, (x.1.length : Int) - 1] := by
      have key : ∀ N j : Nat, L102_0 N (j + 1 + 1) (x, ((x.1.length : Int) - 1, ())) [] 0 = .ret [0, (x.1.length : Int) - 1] := by
        intro N j
        rw [L102_0_succ]; try delta lenI
        have w0 : IntKind.i64.wrap (0 + ((x.1.length : Int) - 1)) = (x.1.length : Int) - 1 := by rw [wr (by omega) (by omega)]; omega
        simp only [wn, dT (show (0 : Int) < (x.1.length : Int) - 1 by omega), fitsT (show ([] : List Int).length + [(0 : Int)].length < 1000000 by simp), cond_true, w0]
        rw [L102_0_succ]; try delta lenI
        simp only [wn, dF (Int.lt_irrefl _), fitsT (show (([] : List Int) ++ [(0 : Int)]).length + [(x.1.length : Int) - 1].length < 1000000 by simp), cond_true]
        rfl
      unfold f102 F102
      have := key fuel j
      rw [← hj] at this
      exact this
    have : w = (x.1.length : Int) - 1 := by
      refine Int.le_antisymm q4 (Int.not_lt.1 fun c => q9 _ _ c (Int.le_refl _) e102 hd)
    rw [q1, this]
  · obtain ⟨n, _, e2, e3, e4⟩ := least_at x ht hk
    have : n ≤ 0 := (e4 0 (by omega)).2 fun j j1 j2 => by rw [ev_of ht h j1 j2]; omega
    rw [e2]
    have e : n = 0 := by omega
    rw [e]
theorem law17 (a d n r : Int) : f17 (a, (d, (n, (r, ())))) = .ret true := by
  have hfb := fuel_big
  unfold f17 F17; try delta lenI
  simp only [known_true]
  by_cases c1 : a < -9999
  · simp only [dT c1]
  by_cases c2 : a > 9999
  · simp only [dF c1, dT c2]
  by_cases c3 : d < -9999
  · simp only [dF c1, dF c2, dT c3]
  by_cases c4 : d > 9999
  · simp only [dF c1, dF c2, dF c3, dT c4]
  by_cases c5 : n < 2
  · simp only [dF c1, dF c2, dF c3, dF c4, dT c5]
  by_cases c6 : n > 13
  · simp only [dF c1, dF c2, dF c3, dF c4, dF c5, dT c6]
  simp only [dF c1, dF c2, dF c3, dF c4, dF c5, dF c6]
  have wn : IntKind.i64.wrap (n - 1) = n - 1 := wr (by omega) (by omega)
  have key : ∀ (m f : Nat) (i : Int) (t : List (Int × (Int × Unit))), m < f → 0 ≤ i → i + m = n → (t.length : Int) = i → (∀ j : Int, 0 ≤ j → j < i → List.getD t j.toNat ((0 : Int), ((0 : Int), ())) = (a + j * d, (a + j * d, ()))) →
      L17_0 fuel f (a, (d, (n, (r, ())))) t r 0 i = .ret true := by
    intro m
    induction m with
    | zero =>
      intro f i t hf hi he hl ht
      obtain ⟨f, rfl⟩ := succ_of hf
      have hn : (t.length : Int) = n := by omega
      rw [L17_0_succ]; try delta lenI
      simp only [f34v_eq, f53v_eq, f49v_eq, f43v_eq, f31v_eq, known_true, dF (show ¬ i < n by omega), wn]
      obtain ⟨b, t1, t2, t3⟩ := tab (t, (r, (0, ()))) (by dsimp only; omega)
      cases b
      · simp only [t1, Bool.not_false]
      have htb := t3.1 rfl
      have hev : Ev (t, (r, (0, ()))) a d := ⟨rfl, fun j j1 j2 => by
        have := ht j j1 (by dsimp only at j2; omega)
        unfold sp'
        dsimp only
        rw [this]
        exact ⟨rfl, rfl⟩⟩
      obtain ⟨e1, e2, e3⟩ := law17_tab _ htb hev
      dsimp only at e1 e2 e3
      rw [hn] at e1 e2 e3
      simp only [t1, Bool.not_true, e1, e2, e3, eT (rfl : (0 : Int) = 0), f31_same [0, n - 1] (by simp), eT (rfl : n - 1 = n - 1)]
    | succ m ih =>
      intro f i t hf hi he hl ht
      obtain ⟨f, rfl⟩ := succ_of hf
      have b1 : -130000 ≤ i * d := by
        have := Int.mul_le_mul_of_nonneg_left (show -9999 ≤ d by omega) hi
        have : i * -9999 = -(9999 * i) := by rw [Int.mul_comm, Int.neg_mul]
        omega
      have b2 : i * d ≤ 130000 := by
        have := Int.mul_le_mul_of_nonneg_left (show d ≤ 9999 by omega) hi
        have : i * 9999 = 9999 * i := Int.mul_comm _ _
        omega
      have w1 : IntKind.i64.wrap (i * d) = i * d := wr (by omega) (by omega)
      have w2 : IntKind.i64.wrap (a + i * d) = a + i * d := wr (by omega) (by omega)
      rw [L17_0_succ]; try delta lenI
      simp only [dT (show i < n by omega), w1, w2, fitsT (show t.length + [(a + i * d, (a + i * d, ()))].length < 1000000 by simp only [List.length_cons, List.length_nil]; omega), cond_true, wr (show -9223372036854775808 ≤ i + 1 by omega) (show i + 1 ≤ 9223372036854775807 by omega)]
      refine ih f (i + 1) _ (by omega) (by omega) (by omega) (by simp; omega) fun j j1 j2 => ?_
      rw [List.getD_eq_getElem?_getD, List.getElem?_append]
      by_cases c : j = i
      · subst c
        rw [if_neg (by omega)]
        have : j.toNat - t.length = 0 := by omega
        rw [this]; rfl
      · rw [if_pos (by omega), ← List.getD_eq_getElem?_getD]
        exact ht j j1 (by omega)
  exact key n.toNat fuel 0 [] (by omega) (by omega) (by omega) rfl (fun j j1 j2 => by omega)
end Go.V
