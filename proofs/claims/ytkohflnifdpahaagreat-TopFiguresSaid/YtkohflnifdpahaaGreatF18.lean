/- A part of the proof of TopFiguresSaid: no condition beyond what each theorem says. -/
import Derived.Test.YtkohflnifdpahaaGreatF17
import Derived.Test.YtkohflnifdpahaaGreatF16
set_option linter.all false
namespace Go.V
open Go.Proofs
open Go.RowKit (Below)
noncomputable def sA61 (sh : RSH) (guard : Int) : St := [.und, .d (.int .i64) guard, .d .raw (Value.func (.func 62) #[] #[]), .box [.d (.int .i64) sh.1, .d (.int .i64) sh.2.1, .d (.list (.int .i64)) sh.2.2.1, .d (.list (.int .i64)) sh.2.2.2.1], .und, .und, .box [.d (.int .i64) (0 : Int), .d (.int .i64) (0 : Int)], .d (.int .i64) (0 : Int), .und, .und, .und, .und, .und, .und, .und, .und, .und, .und, .und, .und, .und, .und, .und, .und, .und, .und, .und, .und, .und, .und, .und, .und, .und, .und, .und, .und, .und, .und, .und, .und, .und, .und, .und, .und, .und, .und, .und, .und]
noncomputable def sB61 (tab : TAB) : St := [.und, .und, .d .raw (Value.func (.func 62) #[] #[]), .und, .und, .und, .box [.d (.int .i64) (0 : Int), .d (.int .i64) (0 : Int)], .d (.int .i64) (0 : Int), .box [.d (.int .i64) tab.1.1, .d (.int .i64) tab.1.2.1, .d (.list (.int .i64)) tab.1.2.2.1, .d (.list (.int .i64)) tab.1.2.2.2.1, .d (.int .i64) tab.2.1], .d (.int .i64) (0 : Int), .und, .und, .und, .und, .und, .und, .und, .und, .und, .und, .und, .und, .und, .und, .und, .und, .und, .und, .und, .und, .und, .und, .und, .und, .und, .und, .und, .und, .und, .und, .und, .und, .und, .und, .und, .und, .und, .und]
noncomputable def sC61 (tab : TAB) : St := [.und, .und, .d .raw (Value.func (.func 62) #[] #[]), .und, .und, .und, .box [.d (.int .i64) (0 : Int), .d (.int .i64) (0 : Int)], .d (.int .i64) (0 : Int), .ref (.prod (.prod (.int .i64) (.prod (.int .i64) (.prod (.list (.int .i64)) (.prod (.list (.int .i64)) .unit)))) (.prod (.int .i64) .unit)) tab, .und, .und, .und, .und, .und, .und, .und, .und, .und, .und, .und, .und, .und, .d .bool false, .und, .und, .und, .und, .und, .und, .und, .und, .und, .und, .und, .und, .und, .und, .und, .und, .und, .und, .und, .und, .und, .und, .und, .und, .und]
noncomputable def sE61 (lo hi : Int) : St := [.und, .und, .und, .und, .und, .und, .box [.d (.int .i64) lo, .d (.int .i64) hi], .d (.int .i64) (0 : Int), .und, .und, .und, .und, .und, .und, .und, .und, .und, .und, .und, .und, .und, .und, .und, .und, .und, .und, .und, .und, .und, .und, .und, .und, .und, .und, .und, .und, .und, .und, .und, .und, .und, .und, .und, .und, .und, .und, .und, .und]
abbrev ARG61 : Ty := .prod RSHTY (.prod (.int .i64) (.prod .raw .unit))
abbrev RES61 : Ty := .prod (.prod (.int .i64) (.prod (.int .i64) .unit)) (.prod (.int .i64) .unit)
structure S61 (x : RSH × Int × Value × Unit) (r : (Int × Int × Unit) × Int × Unit) : Prop where
  fn : x.2.2.1 = Value.func (.func 62) #[] #[]
  some : ∃ (tab : TAB) (o1 o2 : Int → Int) (g : GF) (kk : Nat), f92 (x.1, (x.2.1, ())) = .ret (tab, 0, ()) ∧ sumsR tab fuel 0 g93 1 = .ret (g, kk) ∧ Bd g ∧ kk < 400000 ∧ (∀ k p, g k = some p → f62 (tab, (k, ((p.1, p.2, ()), ()))) = .ret (o1 k, o2 k, ())) ∧ ∀ xs, Gath g o1 o2 (fun _ => false) xs → List.length xs ≤ 2 * kk → f94 (xs, ()) = .ret (r.1.1, r.1.2.1, ())
  zero : r.2.1 = 0
def R61 : (Int × Int × Unit) × Int × Unit := ((-1, 1, ()), 0, ())
open Classical in
noncomputable def f61 (x : RSH × Int × Value × Unit) : Out ((Int × Int × Unit) × Int × Unit) := if S61 x R61 then .ret R61 else .fail
noncomputable def sp61 : Spec := ⟨61, .call, ARG61, RES61, true, false, f61⟩
section
variable {n : Nat} {Q : Exit → Act → World → Prop} {F : Nat → Prop} {M0 : Base} {w0 : World} {a : Act} {w : World} {tab : TAB} {sh : RSH} {guard : Int} {s : H61.σ}
theorem bool61 {st : St} (hc : ConcH H61 F M0 w0 s st a w) {j : Nat} {b : Bool} (h : get st j = .d .bool b) : tm a j = .bool b := by
  obtain ⟨hf, M, hG⟩ := hc
  have s1 := hG.2.1.slot j
  rw [h] at s1
  obtain ⟨cs, e, h1⟩ := s1
  have h1 : cs = [.bool b] := h1
  subst h1
  exact e
theorem front61 (hI : ∀ w, Fr F w0 w → Inv.I Tryz.prog w) (hpl : ∀ j v, M0.pin j = some v → False) (h92 : f92 (sh, (guard, ())) = .ret (tab, 0, ())) (hc : ConcH H61 F M0 w0 (none : Option Q61) (st0 48 ARG61 (sh, guard, Value.func (.func 62) #[] #[], ())) a w)
    (hQ : ∀ a' w', ConcH H61 F M0 w0 (none : Option Q61) (stW tab) a' w' → (Code.seq (.seq (.region 5 r61_5 false) (.block 0 (.loop lb61))) (.seq (.region 10 r61_10 false) .ret)).wpIn (fen none) n Tryz.prog Q a' w') :
    (bodyOf Tryz.f61).wpIn (fen none) n Tryz.prog Q a w := by
  rw [body61_at]
  refine wpIn_seq (vstepH (l := []) all_nil [] Ue61_0 (st' := sA61 sh guard) (fun k => e61_0 sh guard _ k) hI hpl hc fun a1 w1 hc1 => ?_)
  refine wpIn_seq (vstepH (l := [sp92]) (all_cons c92 all_nil) [] Ue61_1 (st' := sB61 tab) (fun k => (e61_1 sh guard _ k).trans (by rw [h92]; rfl)) hI hpl hc1 fun a2 w2 hc2 => ?_)
  refine wpIn_seq (wpIn_seq (vstepH (l := []) all_nil [(4000002, [8, 106])] Ue61_2 (st' := sC61 tab) (fun k => e61_2 tab _ k) hI hpl hc2 fun a3 w3 hc3 => ?_))
  refine wpIn_cond (t := false) (bool61 hc3 (j := 22) rfl) ?_
  simp only [Bool.false_eq_true, if_false]
  refine wpIn_skip (wpIn_seq (vstepH (l := []) all_nil [] Ue61_4 (st' := stW tab) (fun k => e61_4 tab _ k) hI hpl hc3 fun a4 w4 hc4 => hQ a4 w4 hc4))
theorem end61 (hI : ∀ w, Fr F w0 w → Inv.I Tryz.prog w) (hpl : ∀ j v, M0.pin j = some v → False) {r : Nat} {xs : List Int} {lo hi : Int} (h94 : f94 (xs, ()) = .ret (lo, hi, ())) (hc : ConcH H61 F M0 w0 s (stX tab r xs) a w)
    (hQ : ∀ a' w', ConcH H61 F M0 w0 s (sE61 lo hi) a' w' → Q .ret a' w') :
    (Code.seq (.region 10 r61_10 false) .ret).wpIn (fen none) n Tryz.prog Q a w := by
  refine wpIn_seq (vstepH (l := [sp94]) (all_cons c94 all_nil) [] Ue61_10 (st' := sE61 lo hi) (fun k => (e61_10 tab r xs _ k).trans (by rw [h94]; rfl)) hI hpl hc fun a1 w1 hc1 => wpIn_ret (hQ a1 w1 hc1))
end
theorem f61_pan (x : RSH × Int × Value × Unit) (p : Value) : f61 x ≠ .pan p := by
  unfold f61
  intro h
  split at h <;> cases h
theorem results61 {a : Act} {w : World} {b T : Nat} {c0 c1 : Value} {e : Int} (h6 : tm a 6 = .pointer (some ⟨b, 0, none⟩)) (hh : w.heap[b]? = some (.cells #[c0, c1] T (0, 0))) (h7 : tm a 7 = .int .i64 e) : (results Tryz.f61 a.tmps).run Tryz.prog w = .ok (.tuple #[.agg #[c0, c1], .int .i64 e]) w := by
  refine results_pair (r1 := .cell 6 45) (r2 := .tmp 7) (by kernel_rfl) (resV_cell h6 ?_) (congrArg (fun v => Result.ok v w) h7)
  have := load_cells (P := Tryz.prog) (n := 9) (T := 45) (t := .prod (.int .i64) (.prod (.int .i64) .unit)) (w := w) (b := b) (off := 0) (us' := []) (c1 := [c0, c1]) (by kernel_rfl) hh rfl rfl
  rw [this]
  rfl
theorem c61 : Contract Tryz.prog sp61 := by
  refine contract_ret rfl f61_pan fun x M w vs r hf hI hvs hlt => ?_
  have hf : f61 x = .ret r := hf
  unfold f61 at hf
  split at hf
  rotate_left
  · cases hf
  rename_i hS
  cases hf
  obtain ⟨sh, guard, fv, u⟩ := x
  obtain ⟨hfn, ⟨tab, o1, o2, g, kk, h92, hsum, hbd, hkk, hof, h94⟩, _⟩ := hS
  have hfn : fv = Value.func (.func 62) #[] #[] := hfn
  subst hfn
  have h92 : f92 (sh, (guard, ())) = .ret (tab, 0, ()) := h92
  have hst := startH (H := H61) (n := 48) (s := (none : Option Q61)) hvs hlt (fun q hq => by cases hq) (fun b hb => by obtain ⟨q, hq, _⟩ := hb; cases hq)
  have hnh : ∀ b, ¬ H61.hb (none : Option Q61) w b := fun b hb => by obtain ⟨q, hq, _⟩ := hb; cases hq
  have hbelow : ∀ {w'}, Fr (fun k => k < w.heap.size ∧ ¬ H61.hb (none : Option Q61) w k) w w' → Below w.heap.size w w' := fun h => ⟨h.os, h.tape, h.output, h.size, fun k hk => h.block k ⟨hk, hnh k⟩⟩
  have hIw : ∀ w', Fr (fun k => k < w.heap.size ∧ ¬ H61.hb (none : Option Q61) w k) w w' → Inv.I Tryz.prog w' := fun w' hw' => Inv.below _ _ hI (hbelow hw')
  have hpl : ∀ j v, (baseH (H61.hb (none : Option Q61) w) M w).pin j = some v → False := fun j v hj => by cases hj
  refine callsIn_wide.1 (callsIn_of_wp_marks (n := 0) Tryz.func61 some61 trivial ?_)
  refine front61 hIw hpl h92 hst fun a1 w1 hc1 => ?_
  refine wpIn_seq (wpIn_seq (q5_wp hIw hsum hc1 fun m r cnt a2 w2 hc2 hcn => ?_))
  refine wpIn_block (wpIn_loop_rounds (kk + 1) (loop61 (o1 := o1) (o2 := o2) hIw hpl hbd hkk hof (fun q xs a3 w3 hga hle hc3 => ?_) (kk + 1) [] (fun k => (g k).isSome) cnt a2 w2 (by omega) (by simp only [List.length_nil]; omega) ⟨fun x hx => (by cases hx), fun k p hk hl => by
    rw [hk] at hl; cases hl⟩ hc2))
  refine end61 hIw hpl (h94 xs hga hle) hc3 fun a4 w4 hc4 => ?_
  obtain ⟨hfr, Mc, hG⟩ := hc4
  have s6 := hG.2.1.slot 6
  have e6 : get (sE61 (-1) 1) 6 = .box [.d (.int .i64) (-1 : Int), .d (.int .i64) (1 : Int)] := rfl
  rw [show get (sE61 R61.1.1 R61.1.2.1) 6 = _ from e6] at s6
  obtain ⟨b, T, cells, t6, hb, hsz, hMb, hcs⟩ := s6
  have hcells : cells = #[.int .i64 (-1), .int .i64 1] := by
    have hsz : cells.size = 2 := hsz
    have e0 : [cells[0]'(by omega)] = [Value.int .i64 (-1)] := hcs 0 _ (cells[0]'(by omega)) rfl (Array.getElem?_eq_getElem (by omega))
    have e1 : [cells[1]'(by omega)] = [Value.int .i64 1] := hcs 1 _ (cells[1]'(by omega)) rfl (Array.getElem?_eq_getElem (by omega))
    have d0 := (List.cons.inj e0).1
    have d1 := (List.cons.inj e1).1
    apply Array.ext
    · rw [hsz]; rfl
    · intro i h1 h2
      have h2 : i < 2 := h2
      match i, h2 with
      | 0, _ => exact d0
      | 1, _ => exact d1
  subst hcells
  have t7 : tm a4 7 = .int .i64 0 := by
    have s7 := hG.2.1.slot 7
    have e7 : get (sE61 R61.1.1 R61.1.2.1) 7 = .d (.int .i64) (0 : Int) := rfl
    rw [e7] at s7
    obtain ⟨cs, e, h1⟩ := s7
    have h1 : cs = [.int .i64 0] := h1
    subst h1
    exact e
  refine leave_marks (q := fun D => w.heap.size ≤ D) (by simp) (hG.2.1.defers.imp fun D hD => Nat.le_of_not_lt fun h => hD ⟨h, hnh D⟩) fun w5 hm => ?_
  have hb5 : w5.heap[b]? = some (.cells #[.int .i64 (-1), .int .i64 1] T (0, 0)) := (hm.block b ⟨(Array.getElem?_eq_some_iff.1 hb).1, fun _ c e => by rw [hb] at e; cases e⟩).trans hb
  refine ⟨_, results61 t6 hb5 t7, ⟨_, rfl, ?_, M, fun b o h => h, fun b o h => .inl h, ?_, fun b h => by cases h⟩⟩
  · have h5 := hbelow hfr
    exact ⟨hm.os.trans h5.os, hm.tape.trans h5.tape, hm.output.trans h5.output, Nat.le_trans h5.size hm.size, fun k hk => (hm.block k ⟨Nat.lt_of_lt_of_le hk h5.size, fun hq => by have hq : w.heap.size ≤ k := hq; omega⟩).trans (h5.block k hk)⟩
  · exact ⟨[_, _], rfl, _, _, rfl, ⟨[.int .i64 (-1), .int .i64 1], rfl, [.int .i64 (-1)], _, rfl, rfl, [.int .i64 1], [], rfl, rfl, rfl⟩, _, _, rfl, ⟨[.int .i64 0], rfl, rfl⟩, rfl⟩
end Go.V
namespace Go.V
open Go.Proofs
noncomputable def specs29 : List Spec := [sp61]
def hints29 : List (Nat × List Nat) := []
noncomputable def F29 (N : Nat) (x : ((Int × (Int × ((List Int) × ((List Int) × Unit)))) × (Int × Unit))) : Out ((Int × (Int × Unit)) × (Int × Unit)) :=
  match f61 (x.1, (x.2.1, ((Value.func (.func 62) #[] #[]), ()))) with
  | .ret r_1 =>
    .ret (r_1.1, (r_1.2.1, ()))
  | .pan p_2 =>
    .pan p_2
  | .fail => .fail
theorem e29 (N : Nat) (x : ((Int × (Int × ((List Int) × ((List Int) × Unit)))) × (Int × Unit))) : vfn Tryz.prog (phi specs29) hints29 N Tryz.f29 true false (.prod (.prod (.int .i64) (.prod (.int .i64) (.prod (.list (.int .i64)) (.prod (.list (.int .i64)) .unit)))) (.prod (.int .i64) .unit)) (.prod (.prod (.int .i64) (.prod (.int .i64) .unit)) (.prod (.int .i64) .unit)) x = F29 N x := by
  kernel_rfl
noncomputable def f29 (x : ((Int × (Int × ((List Int) × ((List Int) × Unit)))) × (Int × Unit))) : Out ((Int × (Int × Unit)) × (Int × Unit)) := F29 fuel x
noncomputable def sp29 : Spec := ⟨29, .call, (.prod (.prod (.int .i64) (.prod (.int .i64) (.prod (.list (.int .i64)) (.prod (.list (.int .i64)) .unit)))) (.prod (.int .i64) .unit)), (.prod (.prod (.int .i64) (.prod (.int .i64) .unit)) (.prod (.int .i64) .unit)), true, false, f29⟩
theorem c29 : Contract Tryz.prog sp29 := contract_at (l := specs29) (arg := (.prod (.prod (.int .i64) (.prod (.int .i64) (.prod (.list (.int .i64)) (.prod (.list (.int .i64)) .unit)))) (.prod (.int .i64) .unit))) (res := (.prod (.prod (.int .i64) (.prod (.int .i64) .unit)) (.prod (.int .i64) .unit))) (multi := true) (own := false) (F := f29) mixed (all_cons c61 all_nil) Tryz.func29 rfl hints29 fun x _ => ⟨fuel, e29 fuel x⟩
noncomputable def veil {α : Type} (x : α) : α := Classical.choose (⟨x, rfl⟩ : ∃ y, y = x)
theorem veil_eq {α : Type} (x : α) : veil x = x := Classical.choose_spec (⟨x, rfl⟩ : ∃ y, y = x)
@[irreducible] noncomputable def f27v : (((List (List Int)) × ((List Int) × Unit)) × Unit) → Out ((List Int) × (Int × Unit)) := veil f27
theorem f27v_eq : f27v = f27 := by unfold f27v; exact veil_eq f27
noncomputable def sp27v : Spec := ⟨27, .call, (.prod (.prod (.list (.list (.int .i64))) (.prod (.list (.int .i64)) .unit)) .unit), (.prod (.list (.int .i64)) (.prod (.int .i64) .unit)), true, false, f27v⟩
theorem c27v : Contract Tryz.prog sp27v := by
  unfold sp27v
  rw [f27v_eq]
  exact c27
@[irreducible] noncomputable def f29v : ((Int × (Int × ((List Int) × ((List Int) × Unit)))) × (Int × Unit)) → Out ((Int × (Int × Unit)) × (Int × Unit)) := veil f29
theorem f29v_eq : f29v = f29 := by unfold f29v; exact veil_eq f29
noncomputable def sp29v : Spec := ⟨29, .call, (.prod (.prod (.int .i64) (.prod (.int .i64) (.prod (.list (.int .i64)) (.prod (.list (.int .i64)) .unit)))) (.prod (.int .i64) .unit)), (.prod (.prod (.int .i64) (.prod (.int .i64) .unit)) (.prod (.int .i64) .unit)), true, false, f29v⟩
theorem c29v : Contract Tryz.prog sp29v := by
  unfold sp29v
  rw [f29v_eq]
  exact c29
noncomputable def specs9 : List Spec := [sp28, sp27v, sp30, sp29v, sp31]
def hints9 : List (Nat × List Nat) := []
noncomputable def F9 (N : Nat) (x : Unit) : Out Bool :=
  match f27v ((([([(123 : Int), (45 : Int), (-60 : Int), (7 : Int)] : List Int), ([(132 : Int), (45 : Int), (60 : Int), (7 : Int)] : List Int)] : List (List Int)), (([(1 : Int), (1 : Int)] : List Int), ())), ()) with
  | .ret r_1 =>
    match f29v (((10 : Int), ((3 : Int), (([(4 : Int), (1 : Int), (0 : Int)] : List Int), (([(13 : Int), (26 : Int), (44 : Int)] : List Int), ())))), ((1 : Int), ())) with
    | .ret r_3 =>
      match (r_1.2.1 == (0 : Int)) with
      | true =>
        match f31 (r_1.1, (([(123 : Int), (45 : Int), (60 : Int), (7 : Int)] : List Int), ())) with
        | .ret r_5 =>
          match r_5 with
          | true =>
            match (r_3.2.1 == (0 : Int)) with
            | true =>
              .ret (eqI r_3.1.1 (-1 : Int) && (eqI r_3.1.2.1 (1 : Int) && true))
            | false =>
              .ret false
          | false =>
            .ret false
        | .pan p_6 =>
          .pan p_6
        | .fail => .fail
      | false =>
        .ret false
    | .pan p_4 =>
      .pan p_4
    | .fail => .fail
  | .pan p_2 =>
    .pan p_2
  | .fail => .fail
theorem e9 (N : Nat) (x : Unit) : vfn Tryz.prog (phi specs9) hints9 N Tryz.f9 false false .unit .bool x = F9 N x := by
  kernel_rfl
noncomputable def f9 (x : Unit) : Out Bool := F9 fuel x
noncomputable def sp9 : Spec := ⟨9, .call, .unit, .bool, false, false, f9⟩
theorem c9 : Contract Tryz.prog sp9 := contract_at (l := specs9) (arg := .unit) (res := .bool) (multi := false) (own := false) (F := f9) mixed (all_cons c28 (all_cons c27v (all_cons c30 (all_cons c29v (all_cons c31 all_nil))))) Tryz.func9 rfl hints9 fun x _ => ⟨fuel, e9 fuel x⟩
@[irreducible] noncomputable def f9v : Unit → Out Bool := veil f9
theorem f9v_eq : f9v = f9 := by unfold f9v; exact veil_eq f9
noncomputable def sp9v : Spec := ⟨9, .call, .unit, .bool, false, false, f9v⟩
theorem c9v : Contract Tryz.prog sp9v := by
  unfold sp9v
  rw [f9v_eq]
  exact c9
end Go.V
