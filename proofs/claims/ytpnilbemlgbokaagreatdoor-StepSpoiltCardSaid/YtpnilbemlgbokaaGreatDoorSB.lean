/- A part of the proof of a law of the step table. -/
import Derived.Test.YtpnilbemlgbokaaGreatDoorSA
import Derived.Test.YtpnilbemlgbokaaGreatDoorS1
import Derived.Test.YtpnilbemlgbokaaGreatDoorVI
set_option linter.all false
namespace Go.V
open Go.Proofs
open Go.RowKit (Below)
theorem arr_one {cs : Array Value} (h : cs.size = 1) : ∃ c, cs = #[c] := by
  match cs, h with
  | ⟨[c]⟩, _ => exact ⟨c, rfl⟩
theorem attempt_ends {α : Type} {o : Out α} {r : Int} (h : tryOf o = .ret r) : (∃ x, o = .ret x ∧ r = 0) ∨ ∃ T cs, o = .pan (.iface T (.agg cs)) ∧ cs.size = 1 ∧ cs.toList.all (·.oneCell') = true ∧ ((T = 161 ∧ r = 7) ∨ (T = 163 ∧ r = 4)) := by
  unfold tryOf at h
  split at h
  · rename_i x; cases h; exact .inl ⟨x, rfl, rfl⟩
  · rename_i T cs
    cases hc : (cs.size == 1 && cs.toList.all (·.oneCell')) with
    | false => rw [hc] at h; cases h
    | true =>
      rw [hc] at h
      simp only [Bool.and_eq_true, beq_iff_eq] at hc
      refine .inr ⟨T, cs, rfl, hc.1, hc.2, ?_⟩
      cases h1 : T == 161 with
      | true => rw [h1] at h; cases h; exact .inl ⟨by simpa using h1, rfl⟩
      | false =>
        rw [h1] at h
        cases h2 : T == 163 with
        | true => rw [h2] at h; cases h; exact .inr ⟨by simpa using h2, rfl⟩
        | false => rw [h2] at h; cases h
  · cases h
theorem tryOf_pan {α : Type} (o : Out α) (p : Value) : tryOf o ≠ .pan p := by
  unfold tryOf
  split
  · simp
  · rename_i T cs
    cases (cs.size == 1 && cs.toList.all (·.oneCell')) <;> cases T == 161 <;> cases T == 163 <;> simp
  · simp
abbrev TAB : Ty := .prod (.prod (.list (.prod (.int .i64) (.prod (.int .i64) .unit))) (.prod (.int .i64) (.prod (.int .i64) .unit))) (.prod (.list (.int .i64)) (.prod .opq .unit))
noncomputable def f115 (x : (TAB.den × Unit) × Unit) : Out Int := tryOf (f131 (x.1.1, ()))
noncomputable def sp115 : Spec := ⟨115, .call, .prod (.clo 131 TAB .unit) .unit, .int .i64, false, false, f115⟩
theorem c115 : Contract Tryz.prog sp115 := by
  refine contract_ret rfl (fun _ p => tryOf_pan _ p) fun x M w vs r hr hI hvs hlt => ?_
  obtain ⟨v, rest, e1, ⟨cs, e2, fc, pc, e3, e4, e5⟩, e6⟩ := hvs
  have e7 : rest = [] := e6
  have e8 : pc = [] := e5
  subst e7; subst e8; subst e3
  have hv : v = .func (.func 131) #[toVal TAB fc] #[] := e2
  have hvs' : vs = #[v] := by apply Array.ext'; rw [e1]
  subst hvs'
  have hB0 : Below w.heap.size w (w.alloc (.cells #[.int .i64 0] 29)) := (Below.refl _ _).alloc (Nat.le_refl _) _
  have hsz : (w.alloc (.cells #[.int .i64 0] 29)).heap.size = w.heap.size + 1 := by simp
  have h0 : (w.alloc (.cells #[.int .i64 0] 29)).heap[w.heap.size]? = some (.cells #[.int .i64 0] 29 (0, 0)) := heap_alloc_new w _
  have hlt' : ∀ b o, M b o → b < (w.alloc (.cells #[.int .i64 0] 29)).heap.size := fun b o hm => by have := hlt b o hm; omega
  have hc := c131 (x.1.1, ()) M (w.alloc (.cells #[.int .i64 0] 29)) #[toVal TAB fc] (Inv.below _ _ hI hB0) ⟨_, [], rfl, ⟨fc, rfl, RepC.mono (stable_below hB0) TAB _ _ e4⟩, rfl⟩ hlt'
  have done : ∀ (W w' : World) (n : Int), Below (w.alloc (.cells #[.int .i64 0] 29)).heap.size (w.alloc (.cells #[.int .i64 0] 29)) W → Fr (fun b => b < W.heap.size ∧ b ≠ w.heap.size) W w' →
      ∃ v, Ending.returned (.int .i64 n) = .returned v ∧ Below w.heap.size w w' ∧ ResOK M w w' false false (.int .i64) v n := fun W w' n h1 h2 => by
    have hb : Below w.heap.size w w' := ⟨by rw [h2.os, h1.os]; rfl, by rw [h2.tape, h1.tape]; rfl, by rw [h2.output, h1.output]; rfl, by have := h1.size; have := h2.size; omega, fun k hk => by
      have := h1.size
      rw [h2.block k ⟨by omega, by omega⟩, h1.block k (by omega)]
      exact Below.heap_alloc w _ k hk⟩
    exact ⟨_, rfl, hb, resOK_flat hb hlt fun M' => ⟨[_], rfl, rfl⟩⟩
  rcases attempt_ends hr with ⟨y, hy, rfl⟩ | ⟨T, cs, hy, h1, h2, h3⟩
  · have hc' : Calls Tryz.prog 131 #[toVal TAB fc] (w.alloc (.cells #[.int .i64 0] 29)) fun e w' => ∃ v, e = .returned v ∧ Below (w.alloc (.cells #[.int .i64 0] 29)).heap.size (w.alloc (.cells #[.int .i64 0] 29)) w' := by
      have : sp131.f (x.1.1, ()) = .ret y := hy
      rw [this] at hc
      exact hc.mono fun e w' ⟨v, h1, h2, _⟩ => ⟨v, h1, h2⟩
    refine (attempt_calls hv (by kernel_rfl) hc' fun e W ⟨u, he, hb⟩ => ⟨?_, .inl ⟨u, he⟩⟩).mono ?_
    · rw [hb.block _ (by omega)]; exact h0
    · rintro e w' ⟨e0, W, ⟨u, rfl, hb⟩, hf, (⟨_, rfl⟩ | ⟨c, h, _⟩ | ⟨c, h, _⟩)⟩
      · exact done W w' 0 hb hf
      · cases h
      · cases h
  · have hc' : Calls Tryz.prog 131 #[toVal TAB fc] (w.alloc (.cells #[.int .i64 0] 29)) fun e w' => ∃ c, c.oneCell' = true ∧ e = .panicked [{ v := .iface T (.agg #[c]), recovered := false }] ∧ Below (w.alloc (.cells #[.int .i64 0] 29)).heap.size (w.alloc (.cells #[.int .i64 0] 29)) w' := by
      have : sp131.f (x.1.1, ()) = .pan (.iface T (.agg cs)) := hy
      rw [this] at hc
      refine hc.mono fun e w' ⟨⟨q, hq, h4⟩, h5⟩ => ?_
      obtain ⟨cs', rfl, h6, h7⟩ := hq.agg h2
      obtain ⟨c, rfl⟩ := arr_one (h6.trans h1)
      exact ⟨c, by simpa using h7, h4, h5⟩
    refine (attempt_calls hv (by kernel_rfl) hc' fun e W ⟨c, hc1, he, hb⟩ => ⟨?_, .inr ⟨T, c, by rcases h3 with h | h <;> simp [h.1], hc1, he⟩⟩).mono ?_
    · rw [hb.block _ (by omega)]; exact h0
    · rintro e w' ⟨e0, W, ⟨c, hc1, rfl, hb⟩, hf, (⟨⟨u, hu⟩, _⟩ | ⟨c', hc2, rfl⟩ | ⟨c', hc2, rfl⟩)⟩
      · cases hu
      · cases hc2
        rcases h3 with ⟨_, rfl⟩ | ⟨h, _⟩
        · exact done W w' 7 hb hf
        · cases h
      · cases hc2
        rcases h3 with ⟨h, _⟩ | ⟨_, rfl⟩
        · cases h
        · exact done W w' 4 hb hf
noncomputable def sp136a : Spec := ⟨136, .call, .prod TAB .unit, .list (.int .i64), true, true, f136⟩
theorem c136a : Contract Tryz.prog sp136a := own_arr (fn := 136) (arg := .prod TAB .unit) (k := .i64) (f := f136) c136
end Go.V
