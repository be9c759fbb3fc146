/- A part of the proof of a law of the step table. -/
import Derived.Test.YtpnilbemlgbokaaGreatDoorSQ
import Derived.Laws.EntriesVeiled
set_option linter.all false
namespace Go.V
open Go.Proofs
open Go.RowKit (Below)
theorem run_map97 (w : World) : (Instr.makeMap 97 none).run Tryz.prog w = .ok (.map (some w.heap.size)) (w.alloc (.map #[] 0)) := by
  simp [Instr.makeMap]
theorem cell_alloc {w : World} {p : Addr} {v : Value} (h : w.cell? p = some v) (o : Obj) : (w.alloc o).cell? p = some v := cell_below h ((Below.refl _ _).alloc (Nat.le_refl _) o)
set_option maxRecDepth 20000 in
theorem tableOf_calls (p : Option Addr) (n c : Nat) (r f : Int) (w : World) : Calls Tryz.prog 80 #[.agg #[.slice p n c, .int .i64 r, .int .i64 f], .slice none 0 0] w fun e w' => ∃ m, w.heap.size ≤ m ∧ e = .returned (.agg #[.slice p n c, .int .i64 r, .int .i64 f, .slice none 0 0, .map (some m)]) ∧ Below w.heap.size w w' ∧ w'.heap[m]? = some (.map #[] 0) := by
  have hmk := run_map97
  go_enter Tryz.func80, Tryz.ntmps80
  go_wp2
  simp [bodyPost, results, Tryz.results80, go_sem]
  refine ⟨_, by omega, rfl, ?_, ?_⟩
  · exact (((Below.refl _ w).alloc (Nat.le_refl _) _).alloc (by simp) _).alloc (by simp; omega) _
  · exact heap_at (by simp)
noncomputable def f140 (x : Unit × ST × Unit) : Out (List (List Int)) := putN x.2.1 (x.2.1.1.length + 1) [0]
noncomputable def sp140 : Spec := ⟨140, .iter, .clo 140 .unit (.prod (.ptr STAB) .unit), .list (.list (.int .i64)), false, false, f140⟩
set_option maxRecDepth 20000 in
theorem lists_calls {W : World} {N0 : Mut} {J : Nat → Mut → World → Prop} {Jx : World → Prop} {R : Nat → Prop} {t : ST} {ys : List (List Int)} {p : Option Addr} {n c l b o : Nat}
    (hf : putN t (t.1.length + 1) [0] = .ret ys) (h0 : W.cell? ⟨b, o, none⟩ = some (.slice p n c)) (h1 : W.cell? ⟨b, o + 1, none⟩ = some (.int .i64 t.2.1)) (h2 : W.cell? ⟨b, o + 2, none⟩ = some (.int .i64 t.2.2.1)) (hN : ¬ N0 b o)
    (hrep : RepC N0 W (.list (.prod (.int .i64) (.prod (.int .i64) .unit))) [.slice p n c] t.1) (hlt : ∀ b o, N0 b o → b < W.heap.size)
    (hR : ∀ b, R b → b < W.heap.size) (hJI : ∀ i M1 W1, J i M1 W1 → Inv.I Tryz.prog W1) (hJ : ∀ i M1 W1 W2, J i M1 W1 → IterStep W W1 W2 → J i M1 W2) (hJx : ∀ W1 W2, Jx W1 → IterStep W W1 W2 → Jx W2)
    (hround : ∀ i M1 W1 u y, J i M1 W1 → ys[i]? = some y → RepV M1 W1 (.list (.int .i64)) u y → ∃ fn tmps assign body, (Instr.yield l #[u]).run Tryz.prog W1 = .ok (.round l fn tmps assign body) W1 ∧
      RoundIn Fence.wide 0 Tryz.prog l fn tmps assign body W1 fun r W2 => (r = .returned (.bool true) ∧ ∃ M2, J (i + 1) M2 W2 ∧ RoundKeeps R M1 W1 M2 W2) ∨ (r = .returned (.bool false) ∧ Jx W2))
    (hJ0 : J 0 N0 W) :
    Calls Tryz.prog 140 #[.func (.yield l) #[] #[], .pointer (some ⟨b, o, none⟩)] W fun r W' => (∃ u, r = .returned u) ∧ ((∃ M1, J ys.length M1 W') ∨ Jx W') := by
  have g0 := cell_alloc h0 (.cells #[.func (.yield l) #[] #[]] 102)
  have g1 := cell_alloc h1 (.cells #[.func (.yield l) #[] #[]] 102)
  have g2 := cell_alloc h2 (.cells #[.func (.yield l) #[] #[]] 102)
  go_enter Tryz.func140, Tryz.ntmps140
  go_wp2_with (go_at_call 80; refine (tableOf_calls _ _ _ _ _ _).mono ?_; rintro e w' ⟨m, hm, rfl, hbel, hmap⟩)
  clear g0 g1 g2
  have hsz : (W.alloc (.cells #[.func (.yield l) #[] #[]] 102)).heap.size = W.heap.size + 1 := by simp
  rw [hsz] at hm hbel
  have hwsz := hbel.size
  rw [hsz] at hwsz
  have hmlt : m < w'.heap.size := (Array.getElem?_eq_some_iff.1 hmap).1
  obtain ⟨K, hKe⟩ : ∃ K : Ctx, K = { J := J, Jx := Jx, W := W, N0 := N0, l := l, ys := ys, t := t, bt := b, ot := o, ya := W.heap.size, xa := w'.heap.size, pa := w'.heap.size + 1, ma := m, p := p, n := n, c := c, R := R } := ⟨_, rfl⟩
  have hK : K.OK := by
    subst hKe
    refine ⟨Nat.le_refl _, ?_, ?_, ?_, ?_, ?_, ?_, hJI, hJ, hJx, hR, hround, hrep, h0, hN⟩
    · show W.heap.size ≤ w'.heap.size; omega
    · show W.heap.size ≤ w'.heap.size + 1; omega
    · show W.heap.size ≤ m; omega
    · show W.heap.size ≠ m; omega
    · show w'.heap.size ≠ m; omega
    · show w'.heap.size + 1 ≠ m; omega
  obtain ⟨W4, hW4⟩ : ∃ W4, W4 = (((w'.alloc (.cells #[.slice p n c, .int .i64 t.2.1, .int .i64 t.2.2.1, .slice none 0 0, .map (some m)] 99)).alloc (.cells #[.func (.func 141) #[] #[.pointer (some ⟨b, o, none⟩), .pointer (some ⟨W.heap.size, 0, none⟩), .pointer (some ⟨w'.heap.size, 0, none⟩), .pointer (some ⟨w'.heap.size + 1, 0, none⟩)]] 102)).alloc (.cells #[.int .i64 0] 3)) := ⟨_, rfl⟩
  have hB1 : Below w'.heap.size w' W4 := by
    rw [hW4]
    exact (((Below.refl _ w').alloc (Nat.le_refl _) _).alloc (by simp) _).alloc (by simp; omega) _
  have hB0 : Below W.heap.size W W4 := by
    have e1 : Below W.heap.size W (W.alloc (.cells #[.func (.yield l) #[] #[]] 102)) := (Below.refl _ _).alloc (Nat.le_refl _) _
    have e2 : Below W.heap.size (W.alloc (.cells #[.func (.yield l) #[] #[]] 102)) w' := ⟨hbel.os, hbel.tape, hbel.output, hbel.size, fun k hk => hbel.block k (by omega)⟩
    have e3 : Below W.heap.size w' W4 := ⟨hB1.os, hB1.tape, hB1.output, hB1.size, fun k hk => hB1.block k (by omega)⟩
    exact (e1.trans e2).trans e3
  have hx : W4.heap[w'.heap.size]? = some (.cells #[.slice p n c, .int .i64 t.2.1, .int .i64 t.2.2.1, .slice none 0 0, .map (some m)] 99 (0, 0)) := by
    rw [hW4, Below.heap_alloc _ _ _ (by simp; omega), Below.heap_alloc _ _ _ (by simp)]
    exact heap_alloc_new w' _
  have hp : W4.heap[w'.heap.size + 1]? = some (.cells #[.func (.func 141) #[] #[.pointer (some ⟨b, o, none⟩), .pointer (some ⟨W.heap.size, 0, none⟩), .pointer (some ⟨w'.heap.size, 0, none⟩), .pointer (some ⟨w'.heap.size + 1, 0, none⟩)]] 102 (0, 0)) := by
    rw [hW4, Below.heap_alloc _ _ _ (by simp)]
    exact heap_at (by simp)
  have hy : W4.heap[W.heap.size]? = some (.cells #[.func (.yield l) #[] #[]] 102 (0, 0)) := by
    rw [hB1.block _ (by omega), hbel.block _ (by omega)]
    exact heap_alloc_new W _
  have hm4 : W4.heap[m]? = some (.map #[] 0) := (hB1.block _ hmlt).trans hmap
  have hnew : W4.cell? ⟨w'.heap.size + 1 + 1, 0, none⟩ = some (.int .i64 0) := by
    rw [hW4]
    exact cell_at (heap_at (by simp)) rfl
  have hstep : IterStep W W W4 := ⟨hB0, fun k ob e1 _ => (hB0.block k (Array.getElem?_eq_some_iff.1 e1).1).trans e1⟩
  have hat : K.At 0 N0 W4 := by
    subst hKe
    refine ⟨hJ _ _ _ _ hJ0 hstep, hB0.size, hy, hx, hp, ⟨#[], 0, hm4, fun e he => by simp at he⟩, fun k o h => ?_, stable_cells hstep.2⟩
    have h := hlt _ _ h
    have := hB0.size
    refine ⟨by omega, ?_, ?_, ?_, ?_⟩
    · show k ≠ W.heap.size; omega
    · show k ≠ w'.heap.size; omega
    · show k ≠ w'.heap.size + 1; omega
    · show k ≠ m; omega
  have hv : RepV N0 W4 (.list (.int .i64)) (.slice (some ⟨w'.heap.size + 1 + 1, 0, none⟩) 1 1) [(0 : Int)] := by
    refine ⟨_, rfl, _, 1, rfl, Nat.le_refl _, fun i hi => ?_⟩
    have hi0 : i = 0 := by have : i < 1 := hi; omega
    subst hi0
    refine ⟨w'.heap.size + 1 + 1, 0, [.int .i64 0], rfl, rfl, fun j hj => ?_, rfl⟩
    have hj0 : j = 0 := by simpa using hj
    subst hj0
    exact ⟨hnew, fun h => by have := hlt _ _ h; omega⟩
  have hcall := put_calls hK (t.1.length + 1) [0] ys 0 N0 W4 _ hat hv (by rw [hKe]; exact hf) (fun j y hj => by rw [Nat.zero_add, hKe]; exact hj)
  rw [hW4] at hcall
  rw [hKe] at hcall
  refine Calls.mono hcall ?_
  rintro e W5 (⟨rfl, M2, h1, h2⟩ | ⟨rfl, h1⟩)
  · have hj := h1.j
    go_wp2
    simp [bodyPost, results, Tryz.results140, go_sem]
    rw [Nat.zero_add] at hj
    exact .inl ⟨M2, hj⟩
  · go_wp2
    simp [bodyPost, results, Tryz.results140, go_sem]
    exact .inr h1
theorem items140 (x : Unit × ST × Unit) : itemsOf sp140 x = match f140 x with
    | .ret r => some ⟨.list (.int .i64), r⟩
    | _ => none := by
  unfold itemsOf
  have : sp140.f x = f140 x := rfl
  rw [this]
  cases f140 x <;> rfl
theorem ends_unit {fc : List Value} {M : Mut} {w : World} (h : RepC M w .unit fc ()) : fc = [] := h
theorem c140 : Contract Tryz.prog sp140 := by
  intro x M w v z hI hv hlt hz
  cases hf : f140 x with
  | pan p =>
    have hz2 := (items140 x).symm.trans hz
    rw [hf] at hz2; cases hz2
  | fail =>
    have hz2 := (items140 x).symm.trans hz
    rw [hf] at hz2; cases hz2
  | ret ys =>
    have hz2 := (items140 x).symm.trans hz
    rw [hf] at hz2
    cases hz2
    obtain ⟨cs, e1, fc, pc, e2, e3, c1, c2, e4, ⟨b, o, ec, e5, e6, e7, e8⟩, e9⟩ := hv
    have e9' : c2 = [] := e9
    subst e9' e5 e4 e2
    obtain ⟨d1, d2, f1, f2, f3⟩ := e8
    obtain ⟨ad, cap, g1, g2, g3⟩ := f2
    have f2' : RepC M w (.list (.prod (.int .i64) (.prod (.int .i64) .unit))) [.slice ad x.2.1.1.length cap] x.2.1.1 := ⟨ad, cap, rfl, g2, g3⟩
    obtain ⟨d3, d4, k1, k2, d5, d6, m1, m2, m3⟩ := f3
    have k2' : d3 = [.int .i64 x.2.1.2.1] := k2
    have m2' : d5 = [.int .i64 x.2.1.2.2.1] := m2
    have m3' : d6 = [] := m3
    subst m3' m2' k2' m1 k1 g1 f1
    have hv' : v = .func (.func 140) #[] #[.pointer (some ⟨b, o, none⟩)] := e1
    refine ⟨140, #[], #[.pointer (some ⟨b, o, none⟩)], hv', by kernel_rfl, ?_⟩
    intro n l R J Jx W N0 hst hsz hIW hN0 hR hJI hJ hJx hround hJ0
    have c0 := hst _ _ _ (e7 0 (show 0 < 3 from by omega)).1 (e7 0 (show 0 < 3 from by omega)).2
    have c1 := hst _ _ _ (e7 1 (show 1 < 3 from by omega)).1 (e7 1 (show 1 < 3 from by omega)).2
    have c2 := hst _ _ _ (e7 2 (show 2 < 3 from by omega)).1 (e7 2 (show 2 < 3 from by omega)).2
    exact lists_calls (R := R) hf c0.1 c1.1 c2.1 c0.2 (RepC.mono hst _ _ _ f2') hN0 (fun b h => (hR b h).1) hJI hJ hJx (fun i M1 W1 u y h1 h2 h3 => by
      obtain ⟨fn, tmps, assign, body, q1, q2⟩ := hround i M1 W1 u y h1 h2 h3
      exact ⟨fn, tmps, assign, body, q1, q2.1, fun c cs _ => q2.2 c cs (room_wide _)⟩) hJ0
end Go.V
