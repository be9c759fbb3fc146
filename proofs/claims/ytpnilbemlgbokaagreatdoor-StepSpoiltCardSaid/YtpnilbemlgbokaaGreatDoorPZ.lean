/- A part of the proof of a law of the step table. -/
import Derived.Test.YtpnilbemlgbokaaGreatDoorPY
set_option linter.all false
namespace Go.V
open Go.Proofs
theorem f120_iff (l m : List (Int × (Int × Unit))) (hl : l.length ≤ 1000) (hm : m.length ≤ 1000) : ∃ b, f120 (l, (m, ())) = .ret b ∧ (b = true ↔ l = m) := by
  have hf := fuel_big
  unfold f120 F120; try delta lenI
  by_cases h : (l.length : Int) = m.length
  · simp only [nF h]
    obtain ⟨b, e1, e2⟩ := allLoop (L := fun f i => L120_0 fuel f (l, (m, ())) i) (lo := 0) (len := l.length) (c := true) (fun j => List.getD l j.toNat ((0 : Int), ((0 : Int), ())) = List.getD m j.toNat ((0 : Int), ((0 : Int), ())))
      (fun f i q1 q2 => by
        try dsimp only
        rw [L120_0_succ]; try delta lenI
        have w : IntKind.i64.wrap (i + 1) = i + 1 := wr (by omega) (by omega)
        simp only [dT q2, inbT q1 (show i < l.length by omega), inbT q1 (show i < m.length by omega), cond_true, w]
        generalize List.getD l i.toNat ((0 : Int), ((0 : Int), ())) = a
        generalize List.getD m i.toNat ((0 : Int), ((0 : Int), ())) = b
        obtain ⟨a1, a2, ⟨⟩⟩ := a
        obtain ⟨b1, b2, ⟨⟩⟩ := b
        by_cases q3 : a1 = b1
        · by_cases q4 : a2 = b2
          · subst q3; subst q4
            left
            refine ⟨rfl, ?_⟩
            simp [neB, eqI]
          · right
            refine ⟨fun e => q4 (by injection e with _ e; injection e), ?_⟩
            simp only [neB, eqI, eT q3, eF q4, Bool.true_and, Bool.false_and, Bool.and_false, Bool.not_false]
        · right
          refine ⟨fun e => q3 (by injection e), ?_⟩
          simp only [neB, eqI, eF q3, Bool.false_and, Bool.not_false])
      (fun f => by
        try dsimp only
        rw [L120_0_succ]; try delta lenI
        simp only [dF (Int.lt_irrefl _)]) l.length fuel 0 (by omega) (by omega) (by omega)
    refine ⟨b, e1, e2.trans ⟨fun q => ?_, fun q => ?_⟩⟩
    · refine List.ext_getElem (by omega) fun i h1 h2 => ?_
      have := q.1 (i : Int) (by omega) (by omega)
      rw [Int.toNat_natCast, List.getD_eq_getElem?_getD, List.getElem?_eq_getElem h1, List.getD_eq_getElem?_getD, List.getElem?_eq_getElem h2] at this
      exact this
    · subst q
      exact ⟨fun _ _ _ => rfl, rfl⟩
  · simp only [nT h]
    exact ⟨false, rfl, ⟨fun q => (by cases q), fun q => absurd (by rw [q]) h⟩⟩
theorem f70_iff (x y : TABX) (hx : x.1.length ≤ 1000) (hy : y.1.length ≤ 1000) : ∃ b, f70 (x, (y, ())) = .ret b ∧ (b = true ↔ x = y) := by
  obtain ⟨l, r, o, ⟨⟩⟩ := x
  obtain ⟨l', r', o', ⟨⟩⟩ := y
  obtain ⟨b, e1, e2⟩ := f120_iff l l' hx hy
  unfold f70 F70
  by_cases h1 : r = r'
  · by_cases h2 : o = o'
    · simp only [eT h1, eT h2, e1]
      refine ⟨b, rfl, e2.trans ⟨fun h => by rw [h, h1, h2], fun h => by injection h⟩⟩
    · simp only [eT h1, eF h2]
      refine ⟨false, rfl, ⟨fun h => (by cases h), fun h => ?_⟩⟩
      injection h with _ h; injection h with _ h; injection h with h _; exact absurd h h2
  · simp only [eF h1]
    refine ⟨false, rfl, ⟨fun h => (by cases h), fun h => ?_⟩⟩
    injection h with _ h; injection h with h _; exact absurd h h1
end Go.V
