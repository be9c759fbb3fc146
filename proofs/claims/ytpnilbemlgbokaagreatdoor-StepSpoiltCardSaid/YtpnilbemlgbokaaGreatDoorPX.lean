/- A part of the proof of a law of the step table. -/
import Derived.Test.YtpnilbemlgbokaaGreatDoorPW
import Derived.Test.YtpnilbemlgbokaaGreatDoorS6
import Derived.Laws.RangeString
set_option linter.all false
namespace Go.V
open Go.Proofs
abbrev TABX := (List (Int × (Int × Unit))) × (Int × (Int × Unit))
def Sb (x : TABX) : Prop := x.1.length ≤ 900 ∧ (-100000 ≤ x.2.1 ∧ x.2.1 ≤ 100000) ∧ (-100000 ≤ x.2.2.1 ∧ x.2.2.1 ≤ 100000) ∧ ∀ j : Int, 0 ≤ j → j < x.1.length → (-100000 ≤ (sp' x j).1 ∧ (sp' x j).1 ≤ 100000) ∧ (-100000 ≤ (sp' x j).2.1 ∧ (sp' x j).2.1 ≤ 100000)
def vT (s : Int × (Int × Unit)) : List UInt8 := rowT [118, 97, 108, 117, 101] s.1 s.2.1
def rowsL (x : TABX) : List (List UInt8) := rowT [116, 97, 98, 108, 101] x.2.2.1 x.2.1 :: x.1.map vT
theorem sb_tb {x : TABX} (ht : Tb x) : Sb x := by
  have tl := ht.1
  have a := ht.2.1
  have b := ht.2.2.1
  refine ⟨by omega, by omega, by omega, fun j j1 j2 => ?_⟩
  have := sp_small ht j1 j2
  omega
theorem rowsL_rs {x : TABX} (h : Sb x) : Rs (rowsL x) := by
  obtain ⟨h1, h2, h3, h4⟩ := h
  refine ⟨by unfold rowsL; simp; omega, fun r hr => ?_⟩
  unfold rowsL at hr
  rcases List.mem_cons.1 hr with rfl | hr
  · have := rowT_len (w := [116, 97, 98, 108, 101]) (by simp) h3 h2
    omega
  · obtain ⟨s, hs, rfl⟩ := List.mem_map.1 hr
    obtain ⟨i, hi, e⟩ := List.mem_iff_getElem.1 hs
    have q := h4 (i : Int) (by omega) (by omega)
    have e2 : sp' x (i : Int) = s := by
      unfold sp'
      rw [Int.toNat_natCast, List.getD_eq_getElem?_getD, List.getElem?_eq_getElem hi, ← e]; rfl
    rw [e2] at q
    have := rowT_len (w := [118, 97, 108, 117, 101]) (by simp) q.1 q.2
    unfold vT; omega
theorem take_one (x : TABX) {i : Int} (h1 : 0 ≤ i) (h2 : i < x.1.length) : x.1.take (i + 1).toNat = x.1.take i.toNat ++ [sp' x i] := by
  have hi' : i.toNat < x.1.length := by omega
  have : (i + 1).toNat = i.toNat + 1 := by omega
  unfold sp'
  rw [this, List.take_succ_eq_append_getElem hi', List.getD_eq_getElem?_getD, List.getElem?_eq_getElem hi']; rfl
theorem f114_at (x : TABX) (h : Sb x) : f114 (x, ()) = .ret (txt (rowsL x)) := by
  have hfb := fuel_big
  have rs := rowsL_rs h
  obtain ⟨h1, h2, h3, h4⟩ := h
  have key : ∀ (m f : Nat) (i : Int) (rows : List (List UInt8)), m < f → 0 ≤ i → i + m = x.1.length → rows = rowT [116, 97, 98, 108, 101] x.2.2.1 x.2.1 :: (x.1.take i.toNat).map vT → L114_0 fuel f (x, ()) rows i = L114_1 fuel fuel (rowsL x) (rowsL x) 0 0 := by
    intro m
    induction m with
    | zero =>
      intro f i rows hf hi he hr
      obtain ⟨f, rfl⟩ := succ_of hf
      have et : x.1.take i.toNat = x.1 := List.take_of_length_le (by omega)
      rw [et] at hr
      rw [L114_0_succ]; try delta lenI
      simp only [dF (show ¬ i < (x.1.length : Int) by omega), hr]
      rfl
    | succ m ih =>
      intro f i rows hf hi he hr
      obtain ⟨f, rfl⟩ := succ_of hf
      have hi2 : i < x.1.length := by omega
      obtain ⟨q1, q2⟩ := h4 i hi hi2
      have eb : f148b (((sp' x i).1, ((sp' x i).2.1, ())), ()) = .ret (vT (sp' x i)) := told_b _ _ q1 q2
      rw [L114_0_succ]; try delta lenI
      have rl : rows.length ≤ 1000 := by rw [hr]; simp; omega
      simp only [dT hi2, inbT hi hi2, cond_true, eb, fitsT (show rows.length + [vT (sp' x i)].length < 1000000 by simp; omega), wr (show -9223372036854775808 ≤ i + 1 by omega) (show i + 1 ≤ 9223372036854775807 by omega)]
      exact ih f (i + 1) _ (by omega) (by omega) (by omega) (by rw [take_one x hi hi2, hr]; simp)
  unfold f114 F114
  simp only [told_a x h3 h2]
  rw [key x.1.length fuel 0 [rowT [116, 97, 98, 108, 101] x.2.2.1 x.2.1] (by omega) (by omega) (by omega) rfl, seal_p (rowsL x) rs (rowsL x).length fuel 0 0 (by have := rs.1; omega) (by omega) (by omega)]
  rfl
theorem occ_one (s : List UInt8) (c : UInt8) (i : Nat) : Lib.occAt s [c] i = (s[i]? == some c) := by
  unfold Lib.occAt
  cases h : s.drop i with
  | nil =>
    have : s.length ≤ i := by simpa using List.drop_eq_nil_iff.1 h
    rw [List.getElem?_eq_none this]; rfl
  | cons a l =>
    have hi : i < s.length := by
      refine Nat.not_le.1 fun hle => ?_
      rw [List.drop_eq_nil_of_le hle] at h; cases h
    rw [List.drop_eq_getElem_cons hi] at h
    injection h with h1 h2
    rw [List.getElem?_eq_getElem hi, h1]
    show ((c == a) && _) = _
    simp only [List.isPrefixOf, Bool.and_true]
    rw [Bool.eq_iff_iff, beq_iff_eq, beq_iff_eq]
    exact ⟨fun h => by rw [h], fun h => (Option.some.inj h).symm⟩
theorem index_hit1 {a b : List UInt8} {c : UInt8} (h : c ∉ a) : Lib.index (a ++ c :: b) [c] = a.length := by
  refine Lib.index_first (by simp) ?_ fun j hj => ?_
  · rw [occ_one]; simp
  · rw [occ_one, List.getElem?_append_left hj]
    rw [List.getElem?_eq_getElem hj]
    have : a[j] ≠ c := fun e => h (e ▸ List.getElem_mem hj)
    simp [this]
theorem index_miss1 {a : List UInt8} {c : UInt8} (h : c ∉ a) : Lib.index a [c] = -1 := by
  refine Lib.index_none fun j hj => ?_
  rw [occ_one]
  cases hh : a[j]? with
  | none => rfl
  | some b =>
    have : b ∈ a := List.mem_of_getElem? hh
    have hb : b ≠ c := fun e => h (e ▸ this)
    simp [hb]
theorem split_last {a : List UInt8} {c : UInt8} (h : c ∉ a) : Lib.split a [c] = [a] := by
  unfold Lib.split
  rw [Lib.count_miss (index_miss1 h)]
  rfl
theorem split_cons {a b : List UInt8} {c : UInt8} (h : c ∉ a) : Lib.split (a ++ c :: b) [c] = a :: Lib.split b [c] := by
  unfold Lib.split
  have hi := index_hit1 (b := b) h
  have ed : (a ++ c :: b).drop (a.length + 1) = b := by simp
  rw [Lib.count_hit (by simp) hi]
  have e1 : ([c] : List UInt8).length = 1 := rfl
  rw [e1, ed, Nat.add_comm 1]
  show (if Lib.index (a ++ c :: b) [c] == -1 then _ else _) = _
  have ne : ((a.length : Int) == -1) = false := eF (by omega)
  rw [hi, ne]
  simp only [Bool.false_eq_true, if_false, Int.toNat_natCast, Nat.add_zero, e1, ed]
  rw [List.take_left]
theorem f152_at (s : List UInt8) (c : UInt8) (h : s.length < 1000000) : f152 (s, ([c], ())) = .ret (Lib.split s [c]) := by
  have e := Lib.splitB_all ⟨⟨[c]⟩⟩ (Nat.le_refl 1) 0 (Lib.countB ⟨⟨s⟩⟩ ⟨⟨[c]⟩⟩) ⟨⟨s⟩⟩ rfl
  unfold f152 splitL
  simp only [dT h, dT (show 1 ≤ ([c] : List UInt8).length by simp), dT e, Bool.and_self, cond_true]
  rw [Lib.splitB_data]
  rfl
end Go.V
