/- A part of the proof of a law of the step table. -/
import Derived.Test.YtpnilbemlgbokaaGreatDoorPN
set_option linter.all false
namespace Go.V
open Go.Proofs
structure Nw (x y : TAB') : Prop where
  len : y.1.length = x.1.length
  rule : y.2.1 = x.2.1
  off : x.2.2.1 ≤ y.2.2.1
  low : ∀ j : Int, 0 ≤ j → j < x.1.length → (sp' x j).1 ≤ (sp' y j).1
  high : ∀ j : Int, 0 ≤ j → j < x.1.length → (sp' y j).2.1 ≤ (sp' x j).2.1
variable {x y : TAB'}
theorem of_mono (h : Nw x y) {b a r : Int} (h0 : 0 ≤ b) (h1 : b ≤ r) (h2 : r ≤ a) (h3 : b < a) (h4 : a < x.1.length) : Of y b a r ≤ Of x b a r := by
  have f1 := fig_mono (r := x.2.1) (b := b) (a := a) (row := r) h1 h2 h3 (h.low b h0 (by omega)) (h.low a (by omega) h4)
  have f2 := fig_mono (r := x.2.1) (b := b) (a := a) (row := r) h1 h2 h3 (h.high b h0 (by omega)) (h.high a (by omega) h4)
  have q1 := h.low r (by omega) (by omega)
  have q2 := h.high r (by omega) (by omega)
  unfold Of
  rw [h.rule]
  split <;> split <;> omega
theorem fa_mono (h : Nw x y) (hx : Tb x) {k : List Int} (hk : Kp k x.1.length) {j : Int} (h1 : 0 ≤ j) (h2 : j < x.1.length) : Fa y k j ≤ Fa x k j := by
  have kl := kp_len hk
  have tl := hx.1
  obtain ⟨_, _, g⟩ := aro x hk (by omega) h1 (show j ≤ (x.1.length : Int) - 1 by omega)
  have g := ar_range hk g
  unfold Fa
  split
  · exact Int.le_refl _
  · exact of_mono h g.1 g.2.2.1 g.2.2.2.1 (by omega) (by omega)
theorem dub_mono (h : Nw x y) (hx : Tb x) {k : List Int} (hk : Kp k x.1.length) (hd : dub x k = []) : dub y k = [] := by
  apply List.eq_nil_iff_forall_not_mem.2
  intro j hj
  obtain ⟨a1, a2, a3⟩ := dub_mem.1 hj
  rw [h.len] at a2
  have := fa_mono h hx hk a1 a2
  have hm : j ∈ dub x k := dub_mem.2 ⟨a1, a2, by have := h.off; omega⟩
  rw [hd] at hm
  cases hm
theorem al_mono (h : Nw x y) (hx : Tb x) (hy : Tb y) {k : List Int} (hk : k ∈ AL x) : k ∈ AL y := by
  obtain ⟨a1, a2⟩ := (AL_mem hx k).1 hk
  exact (AL_mem hy k).2 ⟨by rw [h.len]; exact a1, dub_mono h hx a1 a2⟩
theorem dl_mono {P Q : Int → Bool} (h : ∀ j, P j = true → Q j = true) : ∀ (m : Nat) (i : Int), (dl P i m).length ≤ (dl Q i m).length := by
  intro m
  induction m with
  | zero => intro i; exact Nat.le_refl _
  | succ m ih =>
    intro i
    have := ih (i + 1)
    unfold dl
    by_cases hp : P i = true
    · rw [if_pos hp, if_pos (h i hp), List.length_cons, List.length_cons]; omega
    · rw [if_neg hp]
      split
      · rw [List.length_cons]; omega
      · exact this
theorem inAll_mono (h : Nw x y) (hx : Tb x) (hy : Tb y) : (inAll y).length ≤ (inAll x).length ∧ ∀ j ∈ inAll y, j ∈ inAll x := by
  constructor
  · unfold inAll
    rw [h.len]
    refine dl_mono (fun j hj => ?_) _ _
    rw [@decide_eq_true_iff _ (Classical.propDecidable _)] at hj ⊢
    exact fun k hk => hj k (al_mono h hx hy hk)
  · intro j hj
    obtain ⟨a1, a2, a3⟩ := inAll_mem.1 hj
    exact inAll_mem.2 ⟨a1, by rw [← h.len]; exact a2, fun k hk => a3 k (al_mono h hx hy hk)⟩
theorem few_mono (h : Nw x y) (hx : Tb x) (hy : Tb y) {k m : List Int} (hk : Few x k) (hm : Few y m) : m.length ≤ k.length :=
  (hm.2 k (al_mono h hx hy hk.1)).1
theorem nw_set (hx : Tb x) {r o : Int} {s : Int × (Int × Unit)} (r0 : 0 ≤ r) (r1 : r < x.1.length) (s1 : (sp' x r).1 ≤ s.1) (s2 : s.1 ≤ s.2.1) (s3 : s.2.1 ≤ (sp' x r).2.1) (o1 : x.2.2.1 ≤ o) (o2 : o ≤ 100) :
    Tb (x.1.set r.toNat s, (x.2.1, (o, ()))) ∧ Nw x (x.1.set r.toNat s, (x.2.1, (o, ()))) := by
  have hr : r.toNat < x.1.length := by omega
  have hsp : ∀ j : Int, 0 ≤ j → sp' (x.1.set r.toNat s, (x.2.1, (o, ()))) j = if r = j then s else sp' x j := by
    intro j j0
    show List.getD (x.1.set r.toNat s) j.toNat ((0 : Int), ((0 : Int), ())) = _
    by_cases e : r = j
    · subst e
      rw [if_pos rfl, List.getD_eq_getElem?_getD, List.getElem?_set_self hr]; rfl
    · rw [if_neg e, List.getD_eq_getElem?_getD, List.getElem?_set_ne (by omega), ← List.getD_eq_getElem?_getD]
  have hl : (x.1.set r.toNat s).length = x.1.length := List.length_set
  obtain ⟨t1, t2, t3, t4⟩ := hx
  have q : Sp (sp' x r) := t4 r r0 r1
  unfold Sp at q
  refine ⟨⟨by dsimp only; rw [hl]; exact t1, t2, by dsimp only; omega, fun j j0 j1 => ?_⟩, ⟨hl, rfl, o1, fun j j0 j1 => ?_, fun j j0 j1 => ?_⟩⟩
  · dsimp only at j1
    rw [hl] at j1
    show Sp (sp' (x.1.set r.toNat s, (x.2.1, (o, ()))) j)
    rw [hsp j j0]
    split
    · unfold Sp
      refine ⟨⟨by omega, by omega⟩, ⟨s2, by omega⟩, by omega⟩
    · exact t4 j j0 j1
  · rw [hsp j j0]
    split
    · rename_i e; subst e; exact s1
    · exact Int.le_refl _
  · rw [hsp j j0]
    split
    · rename_i e; subst e; exact s3
    · exact Int.le_refl _
end Go.V
