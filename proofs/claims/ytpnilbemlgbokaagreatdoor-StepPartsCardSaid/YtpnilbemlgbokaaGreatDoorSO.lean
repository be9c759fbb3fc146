/- A part of the proof of a law of the step table. -/
import Derived.Test.YtpnilbemlgbokaaGreatDoorSN
set_option linter.all false
/- step.(table).sure, called: the loop by the evaluator, the map by hand. -/
namespace Go.V
open Go.Proofs
open Go.RowKit (Below)

theorem get_st142 {t : ST} {mv : Value} {a b i0 : Int} {s : Bool} : ∀ (i : Nat), i ≠ 2 → i ≠ 3 → i ≠ 7 → i ≠ 8 → get (st142 t mv a b i0 s) i = .und := by
  intro i h2 h3 h7 h8
  exact match i, h2, h3, h7, h8 with
    | 0, h2, h3, h7, h8 => rfl
    | 1, h2, h3, h7, h8 => rfl
    | 2, h2, h3, h7, h8 => absurd rfl h2
    | 3, h2, h3, h7, h8 => absurd rfl h3
    | 4, h2, h3, h7, h8 => rfl
    | 5, h2, h3, h7, h8 => rfl
    | 6, h2, h3, h7, h8 => rfl
    | 7, h2, h3, h7, h8 => absurd rfl h7
    | 8, h2, h3, h7, h8 => absurd rfl h8
    | 9, h2, h3, h7, h8 => rfl
    | 10, h2, h3, h7, h8 => rfl
    | 11, h2, h3, h7, h8 => rfl
    | 12, h2, h3, h7, h8 => rfl
    | 13, h2, h3, h7, h8 => rfl
    | 14, h2, h3, h7, h8 => rfl
    | 15, h2, h3, h7, h8 => rfl
    | 16, h2, h3, h7, h8 => rfl
    | 17, h2, h3, h7, h8 => rfl
    | 18, h2, h3, h7, h8 => rfl
    | 19, h2, h3, h7, h8 => rfl
    | 20, h2, h3, h7, h8 => rfl
    | 21, h2, h3, h7, h8 => rfl
    | 22, h2, h3, h7, h8 => rfl
    | 23, h2, h3, h7, h8 => rfl
    | 24, h2, h3, h7, h8 => rfl
    | 25, h2, h3, h7, h8 => rfl
    | 26, h2, h3, h7, h8 => rfl
    | 27, h2, h3, h7, h8 => rfl
    | 28, h2, h3, h7, h8 => rfl
    | 29, h2, h3, h7, h8 => rfl
    | 30, h2, h3, h7, h8 => rfl
    | 31, h2, h3, h7, h8 => rfl
    | 32, h2, h3, h7, h8 => rfl
    | 33, h2, h3, h7, h8 => rfl
    | 34, h2, h3, h7, h8 => rfl
    | 35, h2, h3, h7, h8 => rfl
    | 36, h2, h3, h7, h8 => rfl
    | 37, h2, h3, h7, h8 => rfl
    | 38, h2, h3, h7, h8 => rfl
    | 39, h2, h3, h7, h8 => rfl
    | _ + 40, _, _, _, _ => rfl

theorem box_at {M : Mut} {W : World} {st : St} {a : Act} {v : Value} {cs : List C} (h : SlotOK M W st a v (.box cs)) {b : Nat} (hv : v = .pointer (some ⟨b, 0, none⟩)) :
    ∃ T cells, W.heap[b]? = some (.cells cells T (0, 0)) ∧ cells.size = cs.length ∧ ∀ (k : Nat) (c : C) (u : Value), cs[k]? = some c → cells[k]? = some u → CellOK M W u c := by
  obtain ⟨b', T, cells, e1, e2, e3, _, e5⟩ := h
  rw [hv] at e1
  cases e1
  exact ⟨T, cells, e2, e3, e5⟩

theorem cell_at {W : World} {b : Nat} {cells : Array Value} {T : TypeId} (h : W.heap[b]? = some (.cells cells T (0, 0))) {k : Nat} {u : Value} (hk : cells[k]? = some u) : W.cell? ⟨b, k, none⟩ = some u := (cell_of_row W b k cells T (0, 0) h).trans hk

set_option maxRecDepth 20000 in
theorem loop142_wp {t : ST} {a b i0 : Int} {s s1 : Bool} (hs : sureN t a b fuel i0 s1 = .ret s) {M : Mut} {W : World} {act : Act} {sz b2 b3 bm : Nat} {T2 T3 : TypeId} {p : Option Addr} {n c : Nat}
    (hsz : act.tmps.size = 40) (hd : act.defers = []) (ht2 : tm act 2 = .pointer (some ⟨b2, 0, none⟩)) (ht3 : tm act 3 = .pointer (some ⟨b3, 0, none⟩)) (ht7 : tm act 7 = .bool s1) (ht8 : tm act 8 = .int .i64 i0)
    (h2 : W.heap[b2]? = some (.cells #[.slice p n c, .int .i64 t.2.1, .int .i64 t.2.2.1, .slice none 0 0, .map (some bm)] T2 (0, 0)))
    (h3 : W.heap[b3]? = some (.cells #[.int .i64 a, .int .i64 b] T3 (0, 0))) (hge2 : sz ≤ b2) (hge3 : sz ≤ b3) (hne : b2 ≠ b3) (hszW : sz ≤ W.heap.size)
    (hI : ∀ W', Fr (· < sz) W W' → Inv.I Tryz.prog W') (hlt : ∀ b o, M b o → b < sz) {w0 : World} (hw0 : w0.heap.size = sz) (hfr0 : Fr (· < sz) w0 W) (hrep : RepC M w0 (.list (.prod (.int .i64) (.prod (.int .i64) .unit))) [.slice p n c] t.1)
    {Q : Exit → Act → World → Prop}
    (hQ : ∀ act' W', act'.tmps.size = 40 → tm act' 2 = .pointer (some ⟨b2, 0, none⟩) → tm act' 3 = .pointer (some ⟨b3, 0, none⟩) → tm act' 7 = .bool s → Marks (fun D => sz ≤ D) W' act'.defers → Fr (· < sz) W W' →
      W'.cell? ⟨b2, 4, none⟩ = some (.map (some bm)) → W'.cell? ⟨b3, 0, none⟩ = some (.int .i64 a) → W'.cell? ⟨b3, 1, none⟩ = some (.int .i64 b) → Q (.exit 0) act' W') :
    loop142.wp Tryz.prog Q act W := by
  have hb2 : b2 < W.heap.size := (Array.getElem?_eq_some_iff.1 h2).1
  have hb3 : b3 < W.heap.size := (Array.getElem?_eq_some_iff.1 h3).1
  have hlist : RepC (fun k o => M k o ∨ k = b2 ∨ k = b3) W (.list (.prod (.int .i64) (.prod (.int .i64) .unit))) [.slice p n c] t.1 := by
    refine RepC.mono (fun k o v hc hn => ?_) _ _ _ hrep
    have hk : k < sz := hw0 ▸ cell_lt hc
    refine ⟨(World.cell?_of_block (hfr0.block k hk)).trans hc, ?_⟩
    rintro (h | rfl | rfl)
    · exact hn h
    · exact Nat.lt_irrefl _ (Nat.lt_of_lt_of_le hk hge2)
    · exact Nat.lt_irrefl _ (Nat.lt_of_lt_of_le hk hge3)
  have hown : ∀ i k bb, owns (st142 t (.map (some bm)) a b i0 s1) act W i k bb → k = none ∧ ((i = 2 ∧ bb = b2) ∨ (i = 3 ∧ bb = b3)) := by
    intro i k bb ho
    by_cases e2 : i = 2
    · subst e2
      cases k with
      | none =>
        have := ho.2
        rw [ht2] at this
        cases this
        exact ⟨rfl, .inl ⟨rfl, rfl⟩⟩
      | some k =>
        obtain ⟨cs, c0, _, _, e1, e2, e3, _⟩ := ho
        have e1' : C.d _ _ :: _ = cs := S.box.inj e1
        subst e1'
        have := List.mem_of_getElem? e2
        simp at this
        rcases this with rfl | rfl | rfl | rfl | rfl <;> cases e3
    · by_cases e3 : i = 3
      · subst e3
        cases k with
        | none =>
          have := ho.2
          rw [ht3] at this
          cases this
          exact ⟨rfl, .inr ⟨rfl, rfl⟩⟩
        | some k =>
          obtain ⟨cs, c0, _, _, e1, e2, e3, _⟩ := ho
          have e1' : C.d _ _ :: _ = cs := S.box.inj e1
          subst e1'
          have := List.mem_of_getElem? e2
          simp at this
          rcases this with rfl | rfl <;> cases e3
      · exfalso
        have hno : ownS (get (st142 t (.map (some bm)) a b i0 s1) i) = false ∧ ∀ cs, get (st142 t (.map (some bm)) a b i0 s1) i ≠ .box cs := by
          by_cases e7 : i = 7
          · subst e7; exact ⟨rfl, fun cs h => by cases h⟩
          · by_cases e8 : i = 8
            · subst e8; exact ⟨rfl, fun cs h => by cases h⟩
            · rw [get_st142 i e2 e3 e7 e8]; exact ⟨rfl, fun cs h => by cases h⟩
        cases k with
        | none => have := ho.1; rw [hno.1] at this; cases this
        | some k => obtain ⟨cs, _, _, _, e1, _⟩ := ho; exact hno.2 cs e1
  have hgood : Good { mu := M, ms := fun k o => M k o ∨ k = b2 ∨ k = b3, ws := W, pin := fun j => if j = 2 then some (.pointer (some ⟨b2, 0, none⟩)) else if j = 3 then some (.pointer (some ⟨b3, 0, none⟩)) else none, dm := fun D => sz ≤ D }
      (· < sz) (fun k o => M k o ∨ k = b2 ∨ k = b3) (st142 t (.map (some bm)) a b i0 s1) act W := by
    refine ⟨by rw [hd]; trivial, hsz, fun k hk => Nat.lt_of_lt_of_le hk hszW, hlt, fun _ _ h => .inl h, ?_, ?_, ?_, ?_, ?_, stable_refl _ _, ?_, fun D hD => Nat.le_of_not_lt hD⟩
    · rintro k o (h | rfl | rfl)
      · exact Nat.lt_of_lt_of_le (hlt _ _ h) hszW
      · exact hb2
      · exact hb3
    · rintro k o hk (h | rfl | rfl)
      · exact h
      · exact absurd hk (Nat.not_lt.2 hge2)
      · exact absurd hk (Nat.not_lt.2 hge3)
    · intro i
      by_cases e2 : i = 2
      · subst e2
        rw [ht2]
        refine ⟨b2, T2, _, rfl, h2, rfl, fun o => .inr (.inl rfl), fun k c u hk hu => ?_⟩
        match k, hk, hu with
        | 0, hk, hu => cases hk; cases hu; exact hlist
        | 1, hk, hu => cases hk; cases hu; exact rfl
        | 2, hk, hu => cases hk; cases hu; exact rfl
        | 3, hk, hu => cases hk; cases hu; exact RepC.list_nil _
        | 4, hk, hu => cases hk; cases hu; exact ⟨rfl, rfl, rfl⟩
        | _ + 5, hk, _ => cases hk
      · by_cases e3 : i = 3
        · subst e3
          rw [ht3]
          refine ⟨b3, T3, _, rfl, h3, rfl, fun o => .inr (.inr rfl), fun k c u hk hu => ?_⟩
          match k, hk, hu with
          | 0, hk, hu => cases hk; cases hu; exact rfl
          | 1, hk, hu => cases hk; cases hu; exact rfl
          | _ + 2, hk, _ => cases hk
        · by_cases e7 : i = 7
          · subst e7; rw [ht7]; exact ⟨[_], rfl, rfl⟩
          · by_cases e8 : i = 8
            · subst e8; rw [ht8]; exact ⟨[_], rfl, rfl⟩
            · rw [get_st142 i e2 e3 e7 e8]; trivial
    · intro i k j l bb h1 h2'
      obtain ⟨hk1, h1⟩ := hown i k bb h1
      obtain ⟨hk2, h2'⟩ := hown j l bb h2'
      refine ⟨?_, hk1.trans hk2.symm⟩
      rcases h1 with ⟨rfl, rfl⟩ | ⟨rfl, rfl⟩ <;> rcases h2' with ⟨rfl, h⟩ | ⟨rfl, h⟩
      · rfl
      · exact absurd h hne
      · exact absurd h.symm hne
      · rfl
    · intro i k bb h1
      obtain ⟨_, h1⟩ := hown i k bb h1
      rcases h1 with ⟨rfl, rfl⟩ | ⟨rfl, rfl⟩
      · exact Nat.not_lt.2 hge2
      · exact Nat.not_lt.2 hge3
    · intro j v hj
      dsimp only at hj
      split at hj
      · rename_i e; subst e; cases hj; exact ⟨ht2, rfl⟩
      · split at hj
        · rename_i e; subst e; cases hj; exact ⟨ht3, rfl⟩
        · cases hj
  refine (wpIn_wide (n := 0)).1 (code_ok (phi_ok specs142_ok) mixed hints142 fuel (fin := .ret (s, .map (some bm), a, b)) (by simp) loop142 (· < sz) _ W (some [2, 3]) none 0 (fun h => by cases h) hI ?_ k142 Q (fun h => by cases h) ?_ _ act W ⟨Fr.refl _ _, _, hgood⟩ ((v142 fuel t (.map (some bm)) a b i0 s1).trans (sureN_L fuel i0 s1 hs)))
  · intro j v hj
    dsimp only at hj
    refine ⟨[2, 3], rfl, ?_⟩
    split at hj
    · rename_i e; subst e; simp
    · split at hj
      · rename_i e; subst e; simp
      · cases hj
  · rintro x st act' W' ⟨hfr, M', hg⟩ hk
    obtain ⟨rfl, hl, g7, ⟨c1, c2, c3, c4, g2⟩, g3⟩ := k142_ret hk
    have p2 := (hg.pin 2 _ rfl).1
    have p3 := (hg.pin 3 _ rfl).1
    have s2 := hg.slot 2
    rw [g2] at s2
    have s3 := hg.slot 3
    rw [g3] at s3
    have s7 := hg.slot 7
    rw [g7] at s7
    obtain ⟨cs7, e7, e7'⟩ := s7
    have e7'' : cs7 = [.bool s] := e7'
    subst e7''
    obtain ⟨T, cells, q1, q2, q3⟩ := box_at s2 p2
    obtain ⟨T', cells', r1, r2, r3⟩ := box_at s3 p3
    have c4 : cells[4]? = some (.map (some bm)) := by
      have hlt : 4 < cells.size := by rw [q2]; simp
      have := q3 4 _ cells[4] rfl (Array.getElem?_eq_getElem hlt)
      have h : [cells[4]] = [Value.map (some bm)] := this.1
      rw [Array.getElem?_eq_getElem hlt]
      simpa using h
    have d0 : cells'[0]? = some (.int .i64 a) := by
      have hlt : 0 < cells'.size := by rw [r2]; simp
      have := r3 0 _ cells'[0] rfl (Array.getElem?_eq_getElem hlt)
      have h : [cells'[0]] = [Value.int .i64 a] := this
      rw [Array.getElem?_eq_getElem hlt]
      simpa using h
    have d1 : cells'[1]? = some (.int .i64 b) := by
      have hlt : 1 < cells'.size := by rw [r2]; simp
      have := r3 1 _ cells'[1] rfl (Array.getElem?_eq_getElem hlt)
      have h : [cells'[1]] = [Value.int .i64 b] := this
      rw [Array.getElem?_eq_getElem hlt]
      simpa using h
    exact hQ act' W' (hg.size.trans hl) p2 p3 e7 hg.defers hfr (cell_at q1 c4) (cell_at r1 d0) (cell_at r1 d1)

set_option maxRecDepth 20000 in
theorem sure_calls {t : ST} {a b : Int} {s : Bool} (hs : fsure t a b = .ret s) {M : Mut} {w : World} {p : Option Addr} {n c : Nat} {bm : Nat} {es : Array MapEntry} {clock : Nat}
    (hI : Inv.I Tryz.prog w) (hlt : ∀ b o, M b o → b < w.heap.size) (hrep : RepC M w (.list (.prod (.int .i64) (.prod (.int .i64) .unit))) [.slice p n c] t.1)
    (hb : w.heap[bm]? = some (.map es clock)) (hm : Memo (fun a b s => fsure t a b = .ret s) es) :
    Calls Tryz.prog 142 #[.agg #[.slice p n c, .int .i64 t.2.1, .int .i64 t.2.2.1, .slice none 0 0, .map (some bm)], .agg #[.int .i64 a, .int .i64 b]] w fun e w' =>
      e = .returned (.bool s) ∧ Fr (fun k => k < w.heap.size ∧ k ≠ bm) w w' ∧ ∃ es' clock', w'.heap[bm]? = some (.map es' clock') ∧ Memo (fun a b s => fsure t a b = .ret s) es' := by
  obtain ⟨h1, h2, hN⟩ := fsure_ret hs
  have hbl : bm < w.heap.size := (Array.getElem?_eq_some_iff.1 hb).1
  have hB : Below w.heap.size w ((w.alloc (.cells #[.slice p n c, .int .i64 t.2.1, .int .i64 t.2.2.1, .slice none 0 0, .map (some bm)] 99)).alloc (.cells #[.int .i64 a, .int .i64 b] 116)) := ((Below.refl _ _).alloc (Nat.le_refl _) _).alloc (by simp) _
  have hfr0 : Fr (· < w.heap.size) w ((w.alloc (.cells #[.slice p n c, .int .i64 t.2.1, .int .i64 t.2.2.1, .slice none 0 0, .map (some bm)] 99)).alloc (.cells #[.int .i64 a, .int .i64 b] 116)) := Fr.below hB fun _ h => h
  have hb2 : ((w.alloc (.cells #[.slice p n c, .int .i64 t.2.1, .int .i64 t.2.2.1, .slice none 0 0, .map (some bm)] 99)).alloc (.cells #[.int .i64 a, .int .i64 b] 116)).heap[bm]? = some (.map es clock) := (hB.block bm hbl).trans hb
  obtain ⟨s0, m, hl, hS⟩ := memo_look hb2 hm h1 h2
  unfold pairV at hl
  refine (callsIn_wide (n := 0)).1 (callsIn_of_wp_marks Tryz.func142 rfl trivial ((wpIn_wide (n := 0)).2 ?_))
  simp only [Tryz.ntmps142, List.size_toArray, List.length_cons, List.length_nil, Nat.reduceAdd, Nat.reduceSub, Array.replicate_succ, Array.replicate_zero, List.push_toArray, List.append_toArray, List.nil_append, List.cons_append]
  have hw64 : IntKind.i64.wrap (a + 1) = RowKit.wrap64 (a + 1) := by simp only [IntKind.wrap_i64, RowKit.wrap64]
  rw [hw64] at hN
  cases m
  · go_wp2
    rename_i K hK
    change loop142.wp Tryz.prog _ _ _
    apply loop142_wp hN (M := M) (sz := w.heap.size) (b2 := w.heap.size) (b3 := w.heap.size + 1) (bm := bm) (p := p) (n := n) (c := c) (w0 := w) (T2 := 99) (T3 := 116)
    case hsz => rfl
    case hd => rfl
    case ht2 => rfl
    case ht3 => rfl
    case ht7 => rfl
    case ht8 => rfl
    case h2 =>
      show (World.alloc _ _).heap[w.heap.size]? = _
      rw [Below.heap_alloc _ _ _ (by simp)]
      exact heap_alloc_new w _
    case h3 => exact heap_at (by simp)
    case hge2 => exact Nat.le_refl _
    case hge3 => exact Nat.le_succ _
    case hne => omega
    case hszW => simp; omega
    case hI => exact fun W' h => Inv.below _ _ hI (hfr0.trans h).toBelow
    case hlt => exact hlt
    case hw0 => rfl
    case hfr0 => exact hfr0
    case hrep => exact hrep
    case hQ =>
      intro act' W' q1 q2 q3 q7 qm qf qc q0 q1'
      obtain ⟨tmps, defers⟩ := act'
      obtain ⟨x0, x1, x2, x3, x4, x5, x6, x7, x8, x9, x10, x11, x12, x13, x14, x15, x16, x17, x18, x19, x20, x21, x22, x23, x24, x25, x26, x27, x28, x29, x30, x31, x32, x33, x34, x35, x36, x37, x38, x39, rfl⟩ := arr40 q1
      have e2 : x2 = _ := q2
      have e3 : x3 = _ := q3
      have e7 : x7 = _ := q7
      subst e2; subst e3; subst e7
      have hbW : W'.heap[bm]? = some (.map es clock) := (qf.block bm hbl).trans hb2
      obtain ⟨es', clock', hput, hmemo⟩ := memo_put hbW hm h1 h2 hs
      unfold pairV at hput
      refine hK _ _ ?_
      clear hK hl
      go_wp2
      have hoth : ∀ k, k ≠ bm → (W'.putObj bm (.map es' clock')).heap[k]? = W'.heap[k]? := fun k hk => World.putObj_heap_other hk
      have hmk := qm.keep (KeepsD.but (w' := W'.putObj bm (.map es' clock')) hbW (fun c h => by cases h) fun k _ hk => hoth k hk)
      refine leave_marks (by simp) defers _ hmk fun w2 h2 => ?_
      refine ⟨.bool s, by simp [results, Tryz.results142, go_sem], rfl, ?_, es', ⟨clock', ?_⟩, hmemo⟩
      · have e1 : Fr (fun k => k < w.heap.size ∧ ¬ k = bm) w W' := ⟨(hfr0.trans qf).os, (hfr0.trans qf).tape, (hfr0.trans qf).output, (hfr0.trans qf).size, fun k hk => (hfr0.trans qf).block k hk.1⟩
        have e2 : Fr (fun k => k < w.heap.size ∧ ¬ k = bm) W' (W'.putObj bm (.map es' clock')) := ⟨rfl, rfl, rfl, by simp, fun k hk => hoth k hk.2⟩
        have e3 : Fr (fun k => k < w.heap.size ∧ ¬ k = bm) (W'.putObj bm (.map es' clock')) w2 := ⟨h2.os, h2.tape, h2.output, h2.size, fun k hk => h2.block k (Nat.not_le.2 hk.1)⟩
        exact (e1.trans e2).trans e3
      · rw [h2.block bm (Nat.not_le.2 hbl)]
        have hlt' : bm < W'.heap.size := (Array.getElem?_eq_some_iff.1 hbW).1
        simp [World.putObj, hlt']
  · go_wp2
    have hs0 : s0 = s := by have := (hS (by simp)).symm.trans hs; cases this; rfl
    subst hs0
    refine ⟨.bool s0, by simp [results, Tryz.results142, go_sem], rfl, ?_, es, ⟨clock, hb2⟩, hm⟩
    exact ⟨hfr0.os, hfr0.tape, hfr0.output, hfr0.size, fun k hk => hfr0.block k hk.1⟩
end Go.V
