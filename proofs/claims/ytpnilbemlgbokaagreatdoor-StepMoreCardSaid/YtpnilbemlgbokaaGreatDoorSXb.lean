/- A part of the proof of a law of the step table. -/
import Derived.Test.YtpnilbemlgbokaaGreatDoorSXa
set_option linter.all false
namespace Go.V
open Go.Proofs
open Go.RowKit (Below)
section
variable {ρ : Type} (P : Program) (Φ : Nat → List Spec) (hints : List (Nat × List Nat)) (N : Nat)
def vlead : Nat → Code → (St → Out ρ) → St → Out ρ
  | 0, _, k, st => k st
  | n + 1, .seq a b, k, st => vexec P Φ hints N a none (fun e s => match e with | .normal => vlead n b k s | _ => .fail) st
  | _ + 1, _, _, _ => .fail
end
def restOf : Nat → Code → Code
  | 0, c => c
  | n + 1, .seq _ b => restOf n b
  | _ + 1, c => c
theorem vlead_ok {P : Program} [Inv P] {Φ : Nat → List Spec} {ρ : Type} (hΦ : ∀ g sp, sp ∈ Φ g → Contract P sp) (hm : P.follows .mixedOrders = true) (hints : List (Nat × List Nat)) (N : Nat) {r : ρ} {F : Nat → Prop} {M0 : Base} {w0 : World} {n : Nat}
    (hI : ∀ w, Fr F w0 w → Inv.I P w) (hpl : ∀ j v, M0.pin j = some v → False) {Q : Exit → Act → World → Prop} {k : St → Out ρ} : ∀ (m : Nat) (c : Code),
      (∀ st a w, Conc F M0 w0 st a w → k st = .ret r → (restOf m c).wpIn (fen none) n P Q a w) → ∀ st a w, Conc F M0 w0 st a w → vlead P Φ hints N m c k st = .ret r → c.wpIn (fen none) n P Q a w
  | 0, c, hQ, st, a, w, hc, h => hQ st a w hc h
  | m + 1, .seq x y, hQ, st, a, w, hc, h => by
    refine wpIn_seq (code_ok hΦ hm hints N (fin := .ret r) (by simp) x F M0 w0 none none n (fun _ => rfl) hI (fun j v hj => (hpl j v hj).elim) _ _ ?_ ?_ st a w hc h)
    · intro _ p q e; cases e
    · intro e st a w hc h
      cases e with
      | normal => exact vlead_ok hΦ hm hints N hI hpl m y hQ st a w hc h
      | exit i => cases h
      | ret => cases h
  | _ + 1, .skip, _, _, _, _, _, h => by cases h
  | _ + 1, .region _ _ _, _, _, _, _, _, h => by cases h
  | _ + 1, .cond _ _ _, _, _, _, _, _, h => by cases h
  | _ + 1, .loop _, _, _, _, _, _, h => by cases h
  | _ + 1, .rangeFunc _ _ _ _, _, _, _, _, _, h => by cases h
  | _ + 1, .exit _, _, _, _, _, _, h => by cases h
  | _ + 1, .label _, _, _, _, _, _, h => by cases h
  | _ + 1, .goto _, _, _, _, _, _, h => by cases h
  | _ + 1, .ret, _, _, _, _, _, h => by cases h
  | _ + 1, .refuse _, _, _, _, _, _, h => by cases h
  | _ + 1, .block _ _, _, _, _, _, _, h => by cases h
  | _ + 1, .scope _, _, _, _, _, _, h => by cases h
abbrev TAB62 : Ty := .prod (.list SPN) SPN
abbrev ARG62 : Ty := .prod TAB62 (.prod (.int .i64) (.prod (.int .i64) .unit))
noncomputable def r362 : Array Oper := regAt 3 (bodyOf Tryz.f62)
theorem info362 : r362.toList.map opInfo = [(some 18, .load 25 (.tmp 3), none), (none, .store 25 (.tmp 6) (.tmp 18), none)] := by kernel_rfl
theorem rest62 : restOf 3 (bodyOf Tryz.f62) = .seq (.region 3 r362 false) .ret := by kernel_rfl
theorem ntmps62 : Tryz.f62.ntmps = 19 := by kernel_rfl
theorem res62 : Tryz.f62.results.toList = [.cell 6 25] := by kernel_rfl
theorem body62 : Tryz.f62.body = some (bodyOf Tryz.f62) := by kernel_rfl
def hints62' : List (Nat × List Nat) := [(3000003, [3])]
noncomputable def specs62' : List Spec := [(markOf 1000009)]
theorem pre62 (N : Nat) (x : ARG62.den) : vlead (ρ := S × (S × Nat)) Tryz.prog (phi specs62') hints62' N 3 (bodyOf Tryz.f62) (fun s => .ret (get s 3, (get s 6, s.length))) (st0 Tryz.f62.ntmps ARG62 x) =
    bif (fits ([] : List (Int × (Int × Unit))) x.1.1) then bif (inb x.2.1 x.1.1.length) then bif (decide ((x.2.1.toNat) < x.1.1.length)) then
      .ret (.box [.arr SPN (List.set x.1.1 (x.2.1.toNat) (x.2.2.1, x.2.2)) false, .d (.int .i64) x.1.2.1, .d (.int .i64) x.1.2.2.1], (.box [.own SPN ([] : List (Int × (Int × Unit))) false, .d (.int .i64) (0 : Int), .d (.int .i64) (0 : Int)], 19)) else .fail else .fail else .fail := by
  kernel_rfl
def NewRow (B : Nat) (w : World) (u : Value) (L : List (Int × (Int × Unit))) : Prop :=
  ∃ g cap cells T, u = .slice (some ⟨g, 0, none⟩) L.length cap ∧ B ≤ g ∧ w.heap[g]? = some (.cells cells T (0, 0)) ∧ L.length ≤ cap ∧ cap ≤ maxLen ∧ cells.size = cap * SPN.size ∧
    ∀ i (h : i < L.length), (cells.toList.drop (i * SPN.size)).take SPN.size = [.int .i64 L[i].1, .int .i64 L[i].2.1]
theorem spn_cells {M : Mut} {w : World} {cs : List Value} {x : Int × (Int × Unit)} (h : RepC M w SPN cs x) : cs = [.int .i64 x.1, .int .i64 x.2.1] := by
  obtain ⟨c1, c2, rfl, h1, c3, c4, rfl, h2, h3⟩ := h
  have e1 : c1 = [.int .i64 x.1] := h1
  have e2 : c3 = [.int .i64 x.2.1] := h2
  have e3 : c4 = [] := h3
  rw [e1, e2, e3]; rfl
theorem results_cell {fn : Func} {P : Program} {tmps : Array Value} {w : World} {r : ResultVar} {v : Value} (hr : fn.results.toList = [r]) (h1 : (resV tmps r).run P w = .ok v w) : (results fn tmps).run P w = .ok v w := by
  have hres : results fn tmps = (do let vs ← fn.results.mapM (resV tmps); pure (if h : vs.size = 1 then vs[0] else .tuple vs)) := by
    unfold results
    congr 1
  rw [hres, Array.mapM_eq_mapM_toList, Sem.run_bind, Sem.run_map, hr]
  simp only [List.mapM_cons, List.mapM_nil, Sem.run_bind, h1, Result.andThen_ok, Sem.run_pure]
  rfl
theorem ex_load62 {a : Act} {w : World} {o : Oper} {i : Nat} (ho : o.op = .load 25 (.tmp i)) {b T : Nat} {c0 c1 c2 : Value} (ht : tm a i = .pointer (some ⟨b, 0, none⟩)) (hh : w.heap[b]? = some (.cells #[c0, c1, c2] T (0, 0))) :
    (execOp a.eval o).run Tryz.prog w = .ok (.value (.agg #[c0, c1, c2])) w := by
  have := load_cells (P := Tryz.prog) (n := 9) (T := 25) (t := STAB) (w := w) (b := b) (off := 0) (us' := []) (c1 := [c0, c1, c2]) (by kernel_rfl) hh rfl rfl
  have e1 : a.eval (.tmp i) = .pointer (some ⟨b, 0, none⟩) := ht
  simp [execOp, ho, e1, Instr.loadAt, Instr.sureAddr, this, toVal, Ty.agg]
theorem ex_store62 {a : Act} {w : World} {o : Oper} {i j : Nat} (ho : o.op = .store 25 (.tmp i) (.tmp j)) {b T : Nat} {c0 c1 c2 v0 v1 v2 : Value} (h1 : tm a i = .pointer (some ⟨b, 0, none⟩)) (h3 : tm a j = .agg #[v0, v1, v2]) (hh : w.heap[b]? = some (.cells #[c0, c1, c2] T (0, 0)))
    (ho1 : ∀ v ∈ [v0, v1, v2], v.oneCell' = true) : (execOp a.eval o).run Tryz.prog w = .ok .skip (w.setRow b #[v0, v1, v2]) := by
  have e1 : a.eval (.tmp i) = .pointer (some ⟨b, 0, none⟩) := h1
  have e3 : a.eval (.tmp j) = .agg #[v0, v1, v2] := h3
  have hrun := run_storeVar (P := Tryz.prog) (n := 9) (T := 25) (t := STAB) (by kernel_rfl) (o := 0) (v := .agg #[v0, v1, v2]) rfl hh (by show 0 + 3 ≤ 3; omega) ho1
  simp only [execOp, ho, e1, e3, Instr.storeAt, Instr.sureAddr, Sem.run_bind, Sem.run_pure, Result.andThen_ok]
  rw [hrun]
  rfl
theorem three_cells {cells : Array Value} (h : cells.size = 3) : ∃ c0 c1 c2, cells = #[c0, c1, c2] := by
  obtain ⟨l⟩ := cells
  match l, h with
  | [a, b, c], _ => exact ⟨a, b, c, rfl⟩
theorem two_cells {cells : Array Value} (h : cells.size = 2) : ∃ c0 c1, cells = #[c0, c1] := by
  obtain ⟨l⟩ := cells
  match l, h with
  | [a, b], _ => exact ⟨a, b, rfl⟩
theorem marks_off {q q' : Nat → Prop} {w w' : World} (hk : KeepsD w w') (h : ∀ D, q D → w'.heap[D]? = some (.deferred (some [])) → q' D) : ∀ {ds : List Deferred}, Marks q w ds → Marks q' w' ds
  | [], _ => trivial
  | _ :: _, ⟨⟨D, e, h1, h2⟩, h3, h4⟩ => ⟨⟨D, e, hk D _ h1, h D h2 (hk D _ h1)⟩, h3, marks_off hk h h4⟩
theorem get_repl (n i : Nat) : get (List.replicate n S.und) i = .und := by
  unfold get
  rw [List.getD_eq_getElem?_getD, List.getElem?_replicate]
  split <;> rfl
theorem resV_cell {P : Program} {tmps : Array Value} {w : World} {i b : Nat} {T : TypeId} {v : Value} (h : tmps.getD i undef = .pointer (some ⟨b, 0, none⟩)) (hl : (loadVar T ⟨b, 0, none⟩).run P w = .ok v w) : (resV tmps (.cell i T)).run P w = .ok v w := by
  unfold resV
  simp only [h]
  simp [asAddr, hl]
theorem strong62 {x : ARG62.den} {M : Mut} {w : World} {vs : Array Value} (hI : Inv.I Tryz.prog w) (hvs : RepT M w ARG62 vs.toList x) (hlt : ∀ b o, M b o → b < w.heap.size)
    (c1 : fits ([] : List (Int × (Int × Unit))) x.1.1 = true) (c2 : inb x.2.1 x.1.1.length = true) (c3 : x.2.1.toNat < x.1.1.length) :
    Calls Tryz.prog 62 vs w fun e w' => ∃ u, e = .returned (.agg #[u, .int .i64 x.1.2.1, .int .i64 x.1.2.2.1]) ∧ Below w.heap.size w w' ∧ NewRow w.heap.size w' u (List.set x.1.1 (x.2.1.toNat) (x.2.2.1, x.2.2)) := by
  have hI' : ∀ w', Fr (· < w.heap.size) w w' → Inv.I Tryz.prog w' := fun w' hf => Inv.below _ _ hI hf.toBelow
  have hst := start (n := Tryz.f62.ntmps) hvs hlt
  have hv := pre62 0 x
  rw [c1, c2, decide_eq_true c3] at hv
  simp only [cond_true] at hv
  refine callsIn_wide.1 (callsIn_of_wp_marks (n := 0) Tryz.func62 body62 trivial (vlead_ok (phi_ok (all_cons (mark_ok _) all_nil)) mixed hints62' 0 hI' (fun j v hj => by cases hj) 3 _ ?_ _ _ _ ⟨Fr.refl _ _, M, hst⟩ hv))
  intro st a w3 hc hk
  rw [rest62]
  simp only [Out.ret.injEq, Prod.mk.injEq] at hk
  obtain ⟨k3, k6, klen⟩ := hk
  obtain ⟨hfr, M3, hg⟩ := hc
  have s3 := hg.slot 3
  rw [k3] at s3
  obtain ⟨b3, T3, cells3, e3, h3, z3, m3, q3⟩ := s3
  obtain ⟨u0, u1, u2, rfl⟩ := three_cells z3
  have a0 : ArrAt M3 w3 SPN u0 (List.set x.1.1 (x.2.1.toNat) (x.2.2.1, x.2.2)) := q3 0 _ u0 rfl rfl
  have a1 : [u1] = [Value.int .i64 x.1.2.1] := q3 1 _ u1 rfl rfl
  have a2 : [u2] = [Value.int .i64 x.1.2.2.1] := q3 2 _ u2 rfl rfl
  obtain rfl := (List.cons.inj a1).1
  obtain rfl := (List.cons.inj a2).1
  have s6 := hg.slot 6
  rw [k6] at s6
  obtain ⟨b6, T6, cells6, e6, h6, z6, m6, q6⟩ := s6
  obtain ⟨d0, d1, d2, rfl⟩ := three_cells z6
  have own6 : owns st a w3 6 none b6 := ⟨by rw [k6]; rfl, by rw [e6]; rfl⟩
  have n6 : w.heap.size ≤ b6 := Nat.le_of_not_lt (hg.new _ _ _ own6)
  rcases a0 with ⟨_, hL⟩ | ⟨g, cap, cells, T, rfl, hg1, l1, l2, l3, l4, l5⟩
  · have hl2 : ∀ (l : List (Int × (Int × Unit))) i v, (l.set i v).length = l.length := fun l i v => List.length_set
    exact absurd (Nat.lt_of_lt_of_eq c3 ((hl2 x.1.1 _ _).symm.trans (congrArg List.length hL))) (Nat.not_lt_zero _)
  have own30 : owns st a w3 3 (some 0) g := ⟨_, _, b3, _, k3, rfl, rfl, by rw [e3]; rfl, (cell_of_row w3 b3 0 _ T3 (0, 0) h3).trans rfl, rfl⟩
  have ng : w.heap.size ≤ g := Nat.le_of_not_lt (hg.new _ _ _ own30)
  have hne : g ≠ b6 := fun e => by
    subst e
    have := (hg.one _ _ _ _ _ own30 own6).1
    omega
  have hsz : a.tmps.size = 19 := hg.size.trans klen
  obtain ⟨o0, i0, dd0, p0, q0⟩ := infoAt info362 (i := 0) rfl
  obtain ⟨o1, i1, dd1, p1, q1⟩ := infoAt info362 (i := 1) rfl
  have hrs : r362.size = 2 := by
    have := congrArg List.length info362
    simpa using this
  refine wpIn_seq (wpIn_region ?_)
  rw [hrs]
  show wpOpsIn (fen none) 0 Tryz.prog r362 _ [0, 1] a w3
  rw [wpOpsIn_cons]
  refine opn_value i0 (wanted_none q0) (fun c h => by rw [p0] at h; cases h) (ex_load62 p0 e3 h3) ?_
  rw [dd0, wpOpsIn_cons]
  refine opn_skipped i1 (wanted_none q1) (fun c h => by rw [p1] at h; cases h) (ex_store62 p1 (by rw [tm_put_other (by omega)]; exact e6) (tm_put_same (by omega)) h6 (by
    intro v hv
    simp only [List.mem_cons, List.not_mem_nil, or_false] at hv
    rcases hv with rfl | rfl | rfl <;> rfl)) ?_
  rw [dd1]
  refine wpIn_ret ?_
  generalize hw4 : w3.setRow b6 #[.slice (some ⟨g, 0, none⟩) (List.set x.1.1 (x.2.1.toNat) (x.2.2.1, x.2.2)).length cap, .int .i64 x.1.2.1, .int .i64 x.1.2.2.1] = w4
  have hoth : ∀ k, k ≠ b6 → w4.heap[k]? = w3.heap[k]? := fun k hk => by rw [← hw4]; exact setRow_other w3 b6 k _ hk
  have h6' : w4.heap[b6]? = some (.cells #[.slice (some ⟨g, 0, none⟩) (List.set x.1.1 (x.2.1.toNat) (x.2.2.1, x.2.2)).length cap, .int .i64 x.1.2.1, .int .i64 x.1.2.2.1] T6 (0, 0)) := by rw [← hw4]; exact setRow_heap w3 b6 _ _ T6 (0, 0) h6
  have hs4 : w4.heap.size = w3.heap.size := by rw [← hw4]; exact setRow_size _ _ _
  have hg4 : w4.heap[g]? = some (.cells cells T (0, 0)) := (hoth g hne).trans hg1
  have hos : w4.os = w3.os ∧ w4.tape = w3.tape ∧ w4.output = w3.output := by rw [← hw4]; exact ⟨rfl, rfl, rfl⟩
  have hkd : KeepsD w3 w4 := KeepsD.but h6 (fun c e => by cases e) fun k _ hk => hoth k hk
  have hfr4 : Fr (· < w.heap.size) w w4 := hfr.but (g := b6) (by omega) hos.1 hos.2.1 hos.2.2 (by omega) hoth
  have hb6lt : b6 < w4.heap.size := (Array.getElem?_eq_some_iff.1 h6').1
  have hglt : g < w4.heap.size := (Array.getElem?_eq_some_iff.1 hg4).1
  have good : Good ⟨fun _ _ => False, fun _ _ => True, w4, fun _ => none, fun D => ¬ (D < w.heap.size ∨ D = b6 ∨ D = g)⟩ (fun D => D < w.heap.size ∨ D = b6 ∨ D = g) (fun _ _ => False) (List.replicate 19 S.und)
      { tmps := ((a.put (some 18) (.agg #[.slice (some ⟨g, 0, none⟩) (List.set x.1.1 (x.2.1.toNat) (x.2.2.1, x.2.2)).length cap, .int .i64 x.1.2.1, .int .i64 x.1.2.2.1])).put none undef).tmps, defers := a.defers } w4 := by
    refine ⟨marks_off hkd (fun D h1 h2 => ?_) hg.defers, ?_, fun b hb => ?_, fun _ _ h => h.elim, fun _ _ h => h, fun _ _ h => h.elim, fun _ _ _ h => h, fun i => ?_, fun i k j l b ho => ?_, fun i k b ho => ?_, fun _ _ _ _ h => absurd trivial h, fun j v hj => (by cases hj), fun D h => h⟩
    · rintro (h3 | rfl | rfl)
      · exact absurd h3 (Nat.not_lt.2 h1)
      · rw [h6'] at h2; cases h2
      · rw [hg4] at h2; cases h2
    · show Array.size _ = _
      rw [List.length_replicate]
      simp only [Act.put, Array.size_setIfInBounds]
      exact hsz
    · have := hfr4.size
      rcases hb with h | rfl | rfl
      · omega
      · exact hb6lt
      · exact hglt
    · rw [get_repl]; trivial
    · cases k with
      | none => have := ho.1; rw [get_repl] at this; cases this
      | some k => obtain ⟨cs, _, _, _, e, _⟩ := ho; rw [get_repl] at e; cases e
    · cases k with
      | none => have := ho.1; rw [get_repl] at this; cases this
      | some k => obtain ⟨cs, _, _, _, e, _⟩ := ho; rw [get_repl] at e; cases e
  refine leave (by simp) (fun M5 w5 hg5 hf5 => ?_) (fun D hD => hD) a.defers _ w4 good (Fr.refl _ _)
  have h65 := (hf5.block b6 (.inr (.inl rfl))).trans h6'
  have hg5' := (hf5.block g (.inr (.inr rfl))).trans hg4
  have hf5' : Fr (· < w.heap.size) w4 w5 := ⟨hf5.os, hf5.tape, hf5.output, hf5.size, fun k hk => hf5.block k (.inl hk)⟩
  have t6 : ((a.put (some 18) (.agg #[.slice (some ⟨g, 0, none⟩) (List.set x.1.1 (x.2.1.toNat) (x.2.2.1, x.2.2)).length cap, .int .i64 x.1.2.1, .int .i64 x.1.2.2.1])).put none undef).tmps.getD 6 undef = .pointer (some ⟨b6, 0, none⟩) := by
    show tm (a.put (some 18) _) 6 = _
    rw [tm_put_other (by omega)]; exact e6
  have hload := load_cells (P := Tryz.prog) (n := 9) (T := 25) (t := STAB) (w := w5) (b := b6) (off := 0) (us' := []) (c1 := [.slice (some ⟨g, 0, none⟩) (List.set x.1.1 (x.2.1.toNat) (x.2.2.1, x.2.2)).length cap, .int .i64 x.1.2.1, .int .i64 x.1.2.2.1]) (by kernel_rfl) h65 rfl rfl
  refine ⟨_, results_cell res62 (v := .agg #[.slice (some ⟨g, 0, none⟩) (List.set x.1.1 (x.2.1.toNat) (x.2.2.1, x.2.2)).length cap, .int .i64 x.1.2.1, .int .i64 x.1.2.2.1]) ?_, _, rfl, (hfr4.trans hf5').toBelow, ⟨g, cap, cells, T, rfl, ng, hg5', l1, l2, l3, fun i hi => ?_⟩⟩
  · exact resV_cell t6 hload
  · exact spn_cells (l5 i hi)
theorem Good.put_boxA {M0 : Base} {F : Nat → Prop} {M : Mut} {st : St} {a : Act} {w : World} (h : Good M0 F M st a w) {d : Nat} (hnb : isBox (get st d) = false) {t : Ty} {xs : List t.den} {rest : List C} {cells : Array Value} {E : TypeId} {g : Nat}
    (hd : d < st.length) (hr : ∀ c ∈ rest, ownC c = false) (h0 : ∃ u, cells[0]? = some u ∧ ownB u = some g) (hgF : ¬ F g) (hgo : ∀ i k b, owns st a w i k b → b ≠ g) (hgl : g < w.heap.size) (hsz : cells.size = rest.length + 1)
    (hok : ∀ (k : Nat) (c : C) (u : Value), (C.arr t xs true :: rest)[k]? = some c → cells[k]? = some u → CellOK M w u c) :
    ∃ M', Good M0 F M' (st.set d (.box (.arr t xs true :: rest))) (a.put (some d) (.pointer (some ⟨w.heap.size, 0, none⟩))) (w.alloc (.cells cells E)) := by
  have h1 := h.alloc (.cells cells E) (fun _ => True)
  refine ⟨fun b o => M b o ∨ (b = w.heap.size ∧ True), ?_⟩
  have hda : d < a.tmps.size := by rw [h.size]; exact hd
  have hnb' : ∀ cs, get st d ≠ .box cs := fun cs e => by rw [e] at hnb; cases hnb
  have hrest : ∀ (k : Nat) c, (C.arr t xs true :: rest)[k]? = some c → ownC c = true → k = 0 := fun k c hk hc => by
    cases k with
    | zero => rfl
    | succ k =>
      rw [List.getElem?_cons_succ] at hk
      rw [hr c (List.mem_of_getElem? hk)] at hc
      cases hc
  obtain ⟨u0, hu0, hub⟩ := h0
  have key : ∀ k b, owns (st.set d (.box (.arr t xs true :: rest))) (a.put (some d) (.pointer (some ⟨w.heap.size, 0, none⟩))) (w.alloc (.cells cells E)) d k b → (k = none ∧ b = w.heap.size) ∨ (k = some 0 ∧ b = g) := by
    intro k b hk
    cases k with
    | none =>
      have := hk.2
      rw [tm_put a _ _ _ hda, if_pos rfl] at this
      simp [ownB] at this
      exact .inl ⟨rfl, this.symm⟩
    | some k =>
      obtain ⟨cs', c0, c, v, e1, e2, e0, e3, e4, e5⟩ := hk
      rw [get_set st _ _ _ hd, if_pos rfl] at e1; cases e1
      rw [tm_put a _ _ _ hda, if_pos rfl] at e3
      simp [ownB] at e3; subst e3
      rw [cell_of_row _ _ k cells E (0, 0) (heap_alloc_new w _)] at e4
      obtain rfl := hrest k c0 e2 e0
      rw [hu0] at e4; cases e4
      rw [hub] at e5; cases e5
      exact .inr ⟨rfl, rfl⟩
  refine h1.put hd hnb' (fun k t' xs' => ⟨fun e => ?_, fun e => ?_⟩) ⟨w.heap.size, E, cells, rfl, heap_alloc_new w _, hsz, fun _ => .inr ⟨rfl, trivial⟩, fun k c u hc hu => ?_⟩ (fun k b hk => ?_) (fun k l b e1 e2 => ?_)
  · have := hrest k _ e rfl; subst this; cases e
  · have := hrest k _ e rfl; subst this; cases e
  · refine (hok k c u hc hu).keep (stable_alloc M w _ _) fun b ec eb => ?_
    obtain rfl := hrest k c hc ec
    rw [hu0] at hu; cases hu
    rw [hub] at eb; cases eb
    exact ⟨heap_alloc_old w _ hgl, fun o ho => .inl ho⟩
  · have hold : ∀ j l, owns st a (w.alloc (.cells cells E)) j l b → b < w.heap.size ∧ b ≠ g := fun j l ho => by
      have := owns_world (fun i b ho' => heap_alloc_old w _ (owns_lt h.slot ho')) ho
      exact ⟨owns_lt h.slot this, hgo _ _ _ this⟩
    rcases key k b hk with ⟨_, rfl⟩ | ⟨_, rfl⟩
    · exact ⟨fun hF => absurd (h.room _ hF) (Nat.lt_irrefl _), fun j l _ ho => absurd (hold j l ho).1 (Nat.lt_irrefl _)⟩
    · exact ⟨hgF, fun j l _ ho => (hold j l ho).2 rfl⟩
  · rcases key k b e1 with ⟨rfl, rfl⟩ | ⟨rfl, rfl⟩ <;> rcases key l _ e2 with ⟨rfl, e⟩ | ⟨rfl, e⟩
    · rfl
    · omega
    · omega
    · rfl
theorem modify_push (a : Array Obj) (x : Obj) (f : Obj → Obj) : (a.push x).modify a.size f = a.push (f x) := by
  apply Array.ext
  · simp
  · intro i h1 h2
    simp only [Array.getElem_modify, Array.getElem_push]
    by_cases h : a.size = i
    · subst h; simp
    · rw [if_neg h]
      have : i < a.size := by simp at h2; omega
      simp [this]
theorem alloc_setRow (w : World) (C D : Array Value) (E : TypeId) : (w.alloc (.cells C E)).setRow w.heap.size D = w.alloc (.cells D E) := by
  unfold World.setRow World.alloc
  dsimp only
  rw [modify_push]
noncomputable def r316 : Array Oper := regAt 3 (bodyOf Tryz.f16)
theorem info316 : r316.toList.map opInfo = [(some 73, .load 25 (.tmp 5), none), (some 74, .move (.tmp 2), none), (some 75, .fieldAddr 76 (.tmp 8) 0, none), (some 76, .load 3 (.tmp 75), none),
  (some 77, .call { callee := .value (.func 62), args := #[.tmp 73, .tmp 74, .tmp 76], argTypes := #[25, 3, 3] }, none), (some 11, .alloc 25, none), (none, .store 25 (.tmp 11) (.tmp 77), none)] := by kernel_rfl
theorem way16 : atWay [1, 1, 0] (bodyOf Tryz.f16) = some (.region 3 r316 false) := by kernel_rfl
def in16a (xs : List (Int × (Int × Unit))) : Bool := fits ([] : List (Int × (Int × Unit))) xs
def in16b (xs : List (Int × (Int × Unit))) (row : Int) : Bool := inb row xs.length
def in16c (xs : List (Int × (Int × Unit))) (row : Int) : Bool := decide (row.toNat < xs.length)
def set16 (xs : List (Int × (Int × Unit))) (row lo : Int) : List (Int × (Int × Unit)) := List.set xs row.toNat (lo, (lo, ()))
def st16 (st : St) (xs : List (Int × (Int × Unit))) (r o : Int) : St := ((((((st.map dropS).set 73 .und).set 74 .und).set 75 .und).set 76 .und).set 77 .und).set 11 (.box [.arr SPN xs true, .d (.int .i64) r, .d (.int .i64) o])
def E16 {ρ : Type} (k : X → St → Out ρ) (st : St) : Out ρ :=
  match get st 5 with
  | .box [.d (.list (.prod (.int .i64) (.prod (.int .i64) .unit))) xs, .d (.int .i64) r, .d (.int .i64) o] => (match get st 8 with
    | .box [.d (.int .i64) lo, .d (.int .i64) _] => (match get st 2 with
      | .d (.int .i64) row => (match isBox (get st 73) || isBox (get st 74) || isBox (get st 75) || isBox (get st 76) || isBox (get st 77) || isBox (get st 11) || !(st.length == 186) with
        | true => .fail
        | false => bif in16a xs then bif in16b xs row then bif in16c xs row then k .normal (st16 st (set16 xs row lo) r o) else .fail else .fail else .fail)
      | _ => .fail)
    | _ => .fail)
  | _ => .fail
theorem ex_field76 {a : Act} {w : World} {o : Oper} (ho : o.op = .fieldAddr 76 (.tmp 8) 0) {b : Nat} (h1 : tm a 8 = .pointer (some ⟨b, 0, none⟩)) : (execOp a.eval o).run Tryz.prog w = .ok (.value (.pointer (some ⟨b, 0, none⟩))) w := by
  have e1 : a.eval (.tmp 8) = .pointer (some ⟨b, 0, none⟩) := h1
  simp only [execOp, ho, e1]
  simp [go_sem, add_lit]
theorem ex_load376 {a : Act} {w : World} {o : Oper} (ho : o.op = .load 3 (.tmp 75)) {b T : Nat} {c0 c1 : Value} (h1 : tm a 75 = .pointer (some ⟨b, 0, none⟩)) (hh : w.heap[b]? = some (.cells #[c0, c1] T (0, 0))) : (execOp a.eval o).run Tryz.prog w = .ok (.value c0) w := by
  have := load_cells (P := Tryz.prog) (n := 9) (T := 3) (t := .int .i64) (w := w) (b := b) (off := 0) (us' := [c1]) (c1 := [c0]) (by kernel_rfl) hh rfl rfl
  have e1 : a.eval (.tmp 75) = .pointer (some ⟨b, 0, none⟩) := h1
  simp [execOp, ho, e1, Instr.loadAt, Instr.sureAddr, this, toVal, Ty.agg]
theorem ex_call62 {a : Act} {w : World} {o : Oper} (ho : o.op = .call { callee := .value (.func 62), args := #[.tmp 73, .tmp 74, .tmp 76], argTypes := #[25, 3, 3] }) {u v x : Value} (h1 : tm a 73 = u) (h2 : tm a 74 = v) (h3 : tm a 76 = x) : (execOp a.eval o).run Tryz.prog w = .ok (.enter 62 #[u, v, x]) w := by
  have e1 : a.eval (.tmp 73) = u := h1
  have e2 : a.eval (.tmp 74) = v := h2
  have e5 : a.eval (.tmp 76) = x := h3
  have e4 : a.eval (.func 62) = .func (.func 62) #[] #[] := rfl
  have e3 := enters_run (P := Tryz.prog) (g := 62) (by kernel_rfl) #[u, v, x] w
  simp [execOp, ho, resolve, e1, e2, e4, e5, Deferred.ofValue, invoke, e3]
theorem e16_core {F : Nat → Prop} {M0 : Base} {w0 : World} {n : Nat} (hI : ∀ w, Fr F w0 w → Inv.I Tryz.prog w) {Q : Exit → Act → World → Prop} {st : St} {a : Act} {w : World} (hc : Conc F M0 w0 st a w)
    {xs : List (Int × (Int × Unit))} {r o lo hi row : Int} (h5 : get st 5 = .box [.d (.list SPN) xs, .d (.int .i64) r, .d (.int .i64) o]) (h8 : get st 8 = .box [.d (.int .i64) lo, .d (.int .i64) hi]) (h2 : get st 2 = .d (.int .i64) row)
    (hnb : (isBox (get st 73) || isBox (get st 74) || isBox (get st 75) || isBox (get st 76) || isBox (get st 77) || isBox (get st 11) || !(st.length == 186)) = false) (ca : in16a xs = true) (cb : in16b xs row = true) (cc : in16c xs row = true)
    (hk : ∀ a w, Conc F M0 w0 (st16 st (set16 xs row lo) r o) a w → Q .normal a w) : (Code.region 3 r316 false).wpIn (fen none) n Tryz.prog Q a w := by
  simp only [Bool.or_eq_false_iff] at hnb
  obtain ⟨⟨⟨⟨⟨⟨n73, n74⟩, n75⟩, n76⟩, n77⟩, n11⟩, hlen⟩ := hnb
  have hlen : st.length = 186 := by simpa using hlen
  obtain ⟨hfr, M, hg⟩ := hc.drop
  have hm : ∀ i, get (st.map dropS) i = dropS (get st i) := fun i => get_map st i
  have s5 := hg.slot 5
  rw [hm, h5] at s5
  obtain ⟨b5, T5, cells5, e5, hh5, z5, _, q5⟩ := s5
  obtain ⟨u0, u1, u2, rfl⟩ := three_cells z5
  have a0 : RepC M w (.list SPN) [u0] xs := q5 0 _ u0 rfl rfl
  have a1 : [u1] = [Value.int .i64 r] := q5 1 _ u1 rfl rfl
  have a2 : [u2] = [Value.int .i64 o] := q5 2 _ u2 rfl rfl
  obtain rfl := (List.cons.inj a1).1
  obtain rfl := (List.cons.inj a2).1
  have s8 := hg.slot 8
  rw [hm, h8] at s8
  obtain ⟨b8, T8, cells8, e8, hh8, z8, _, q8⟩ := s8
  obtain ⟨v0, v1, rfl⟩ := two_cells z8
  have c0 : [v0] = [Value.int .i64 lo] := q8 0 _ v0 rfl rfl
  obtain rfl := (List.cons.inj c0).1
  have t2 : tm a 2 = .int .i64 row := by
    have s2 := hg.slot 2
    rw [hm, h2] at s2
    obtain ⟨cs, e, q⟩ := s2
    have q' : cs = [.int .i64 row] := q
    subst q'
    exact e
  have hsz : a.tmps.size = 186 := hg.size.trans (by simpa using hlen)
  have l0 : (st.map dropS).length = 186 := by simpa using hlen
  have k73 := put_und hg (d := 73) (by rw [hm]; exact isBox_dropS n73) (.agg #[u0, .int .i64 r, .int .i64 o])
  have k74 := put_und k73 (d := 74) (by rw [get_setne (by omega), hm]; exact isBox_dropS n74) (.int .i64 row)
  have k75 := put_und k74 (d := 75) (by rw [get_setne (by omega), get_setne (by omega), hm]; exact isBox_dropS n75) (.pointer (some ⟨b8, 0, none⟩))
  have k76 := put_und k75 (d := 76) (by rw [get_setne (by omega), get_setne (by omega), get_setne (by omega), hm]; exact isBox_dropS n76) (.int .i64 lo)
  obtain ⟨A, hA⟩ : ∃ A, A = (((a.put (some 73) (.agg #[u0, .int .i64 r, .int .i64 o])).put (some 74) (.int .i64 row)).put (some 75) (.pointer (some ⟨b8, 0, none⟩))).put (some 76) (.int .i64 lo) := ⟨_, rfl⟩
  obtain ⟨S, hS⟩ : ∃ S, S = ((((st.map dropS).set 73 .und).set 74 .und).set 75 .und).set 76 .und := ⟨_, rfl⟩
  rw [← hA, ← hS] at k76
  have sA : A.tmps.size = 186 := by
    rw [hA]
    simp only [size_put]
    exact hsz
  have lS : S.length = 186 := by
    rw [hS]
    simp only [List.length_set]
    exact l0
  have b77 : isBox (get S 77) = false := by rw [hS, get_setne (by omega), get_setne (by omega), get_setne (by omega), get_setne (by omega), hm]; exact isBox_dropS n77
  have b11 : isBox (get (S.set 77 .und) 11) = false := by rw [get_setne (by omega), hS, get_setne (by omega), get_setne (by omega), get_setne (by omega), get_setne (by omega), hm]; exact isBox_dropS n11
  have e73 : tm A 73 = .agg #[u0, .int .i64 r, .int .i64 o] := by
    rw [hA, tm_put_other (by omega), tm_put_other (by omega), tm_put_other (by omega), tm_put_same (by omega)]
  have e74 : tm A 74 = .int .i64 row := by
    rw [hA, tm_put_other (by omega), tm_put_other (by omega), tm_put_same (by simp only [size_put]; omega)]
  have e76 : tm A 76 = .int .i64 lo := by
    rw [hA, tm_put_same (by simp only [size_put]; omega)]
  have hcall := strong62 (x := ((xs, (r, (o, ()))), (row, (lo, ())))) (M := M) (w := w) (vs := #[.agg #[u0, .int .i64 r, .int .i64 o], .int .i64 row, .int .i64 lo]) (hI w hfr)
    ⟨_, _, rfl, ⟨[u0, .int .i64 r, .int .i64 o], rfl, ⟨[u0], [.int .i64 r, .int .i64 o], rfl, a0, [.int .i64 r], [.int .i64 o], rfl, rfl, [.int .i64 o], [], rfl, rfl, rfl⟩⟩, _, _, rfl, ⟨[.int .i64 row], rfl, rfl⟩, _, _, rfl, ⟨[.int .i64 lo], rfl, rfl⟩, rfl⟩ hg.lt ca cb (of_decide_eq_true cc)
  have hrs : r316.size = 7 := by have := congrArg List.length info316; simpa using this
  obtain ⟨o0, i0, d0, p0, z0⟩ := infoAt info316 (i := 0) rfl
  obtain ⟨o1, i1, d1, p1, z1⟩ := infoAt info316 (i := 1) rfl
  obtain ⟨o2, i2, d2, p2, z2⟩ := infoAt info316 (i := 2) rfl
  obtain ⟨o3, i3, d3, p3, z3⟩ := infoAt info316 (i := 3) rfl
  obtain ⟨o4, i4, d4, p4, z4⟩ := infoAt info316 (i := 4) rfl
  obtain ⟨o5, i5, d5, p5, z5⟩ := infoAt info316 (i := 5) rfl
  obtain ⟨o6, i6, d6, p6, z6⟩ := infoAt info316 (i := 6) rfl
  refine wpIn_region ?_
  rw [hrs]
  show wpOpsIn (fen none) n Tryz.prog r316 Q [0, 1, 2, 3, 4, 5, 6] a w
  rw [wpOpsIn_cons]
  refine opn_value i0 (wanted_none z0) (fun c h => by rw [p0] at h; cases h) (ex_load62 p0 e5 hh5) ?_
  rw [d0, wpOpsIn_cons]
  refine opn_value i1 (wanted_none z1) (fun c h => by rw [p1] at h; cases h) (ex_move p1) ?_
  rw [d1, tm_put_other (by omega), t2, wpOpsIn_cons]
  refine opn_value i2 (wanted_none z2) (fun c h => by rw [p2] at h; cases h) (ex_field76 p2 (b := b8) (by rw [tm_put_other (by omega), tm_put_other (by omega)]; exact e8)) ?_
  rw [d2, wpOpsIn_cons]
  refine opn_value i3 (wanted_none z3) (fun c h => by rw [p3] at h; cases h) (ex_load376 p3 (b := b8) (tm_put_same (by simp only [size_put]; omega)) hh8) ?_
  rw [d3, ← hA, wpOpsIn_cons]
  refine opn_enter i4 (wanted_none z4) (fun c h => by rw [p4] at h; cases h) (ex_call62 p4 e73 e74 e76) (hcall.mono ?_)
  rintro e w2 ⟨u, rfl, hb, g, cap, cells, T, rfl, ng, hg2, l1, l2, l3, l4⟩
  refine ⟨_, rfl, ?_⟩
  rw [d4]
  have hgl : g < w2.heap.size := (Array.getElem?_eq_some_iff.1 hg2).1
  have kB : Good M0 F (fun b o => M b o ∨ b = g) S A w2 := by
    refine k76.world (fun b o v e hn => ?_) hb.size (fun b o h => .inl (k76.up b o h)) (fun b o h => ?_) (fun b o hF h => ?_) (KeepsD.below hb) fun i k b ho => ⟨hb.block b (owns_lt k76.slot ho), fun o h => .inl h⟩
    · have hlt := cell_lt e
      refine ⟨(hb.cell (p := ⟨b, o, none⟩) hlt).trans e, fun h => ?_⟩
      rcases h with h | h
      · exact hn h
      · have : b < w.heap.size := hlt
        omega
    · rcases h with h | rfl
      · exact Nat.lt_of_lt_of_le (k76.lt b o h) hb.size
      · exact hgl
    · rcases h with h | rfl
      · exact k76.down b o hF h
      · exact absurd (k76.room _ hF) (Nat.not_lt.2 ng)
  have hold : ∀ i k b, owns S A w2 i k b → b < w.heap.size := fun i k b ho => owns_lt k76.slot (owns_world (fun i b ho' => hb.block b (owns_lt k76.slot ho')) ho)
  have k77 := put_und kB (d := 77) b77 (.agg #[.slice (some ⟨g, 0, none⟩) (List.set xs row.toNat (lo, (lo, ()))).length cap, .int .i64 r, .int .i64 o])
  have hold77 : ∀ i k b, owns (S.set 77 .und) (A.put (some 77) (.agg #[.slice (some ⟨g, 0, none⟩) (List.set xs row.toNat (lo, (lo, ()))).length cap, .int .i64 r, .int .i64 o])) w2 i k b → b ≠ g := by
    intro i k b ho
    by_cases e : i = 77
    · subst e
      exact absurd ho (not_owns_plain (by omega) rfl)
    · have := hold i k b (owns_put e ho)
      omega
  obtain ⟨M2, k11⟩ := k77.put_boxA (d := 11) b11 (t := SPN) (xs := set16 xs row lo) (rest := [.d (.int .i64) r, .d (.int .i64) o]) (cells := #[.slice (some ⟨g, 0, none⟩) (List.set xs row.toNat (lo, (lo, ()))).length cap, .int .i64 r, .int .i64 o]) (E := 25) (g := g)
    (by rw [List.length_set]; omega) (fun c hc => by
      simp only [List.mem_cons, List.not_mem_nil, or_false] at hc
      rcases hc with rfl | rfl <;> rfl) ⟨_, rfl, rfl⟩ (fun hF => absurd (k76.room _ hF) (Nat.not_lt.2 ng)) hold77 hgl rfl (fun k c u h1 h2 => by
      match k, h1, h2 with
      | 0, h1, h2 =>
        cases h1; cases h2
        exact .inr ⟨g, cap, cells, T, rfl, hg2, l1, l2, l3, fun _ => .inr rfl, fun i hi => by
          rw [l4 i hi]
          exact ⟨[_], [_], rfl, rfl, [_], [], rfl, rfl, rfl⟩⟩
      | 1, h1, h2 => cases h1; cases h2; exact rfl
      | 2, h1, h2 => cases h1; cases h2; exact rfl
      | _ + 3, h1, _ => cases h1)
  rw [wpOpsIn_cons]
  refine opn_value i5 (wanted_none z5) (fun c h => by rw [p5] at h; cases h) (ex_alloc25 p5) ?_
  rw [d5, wpOpsIn_cons]
  refine opn_skipped i6 (wanted_none z6) (fun c h => by rw [p6] at h; cases h) (ex_store62 p6 (b := w2.heap.size) (T := 25) (c0 := .slice none 0 0) (c1 := .int .i64 0) (c2 := .int .i64 0) (v0 := .slice (some ⟨g, 0, none⟩) (List.set xs row.toNat (lo, (lo, ()))).length cap) (v1 := .int .i64 r) (v2 := .int .i64 o)
    (tm_put_same (by simp only [size_put]; omega)) (by rw [tm_put_other (by omega)]; exact tm_put_same (by omega)) (heap_alloc_new w2 _) (by
      intro v hv
      simp only [List.mem_cons, List.not_mem_nil, or_false] at hv
      rcases hv with rfl | rfl | rfl <;> rfl)) ?_
  have hW : (w2.alloc (.cells #[.slice none 0 0, .int .i64 0, .int .i64 0] 25)).setRow w2.heap.size #[.slice (some ⟨g, 0, none⟩) (List.set xs row.toNat (lo, (lo, ()))).length cap, .int .i64 r, .int .i64 o] = w2.alloc (.cells #[.slice (some ⟨g, 0, none⟩) (List.set xs row.toNat (lo, (lo, ()))).length cap, .int .i64 r, .int .i64 o] 25) := by
    exact alloc_setRow w2 _ _ 25
  rw [d6, put_none, hW]
  refine hk _ _ ⟨(hfr.trans (Fr.below hb hg.room)).alloc (fun b hF => Nat.lt_of_lt_of_le (hg.room b hF) hb.size) _, M2, ?_⟩
  unfold st16
  rw [← hS]
  exact k11
theorem e16_ok : EOK Tryz.prog (.region 3 r316 false) (fun {ρ} k st => E16 k st) := by
  intro ρ fin hf F M0 w0 n hI hpl k Q hp hQ st a w hc h
  dsimp only at h
  unfold E16 at h
  split at h
  rotate_left
  · exact absurd h.symm hf
  rename_i xs r o h5
  split at h
  rotate_left
  · exact absurd h.symm hf
  rename_i lo hi h8
  split at h
  rotate_left
  · exact absurd h.symm hf
  rename_i row h2
  split at h
  · exact absurd h.symm hf
  rename_i hnb
  cases ca : in16a xs with
  | false => rw [ca] at h; exact absurd h.symm hf
  | true =>
  cases cb : in16b xs row with
  | false => rw [ca, cb] at h; exact absurd h.symm hf
  | true =>
  cases cc : in16c xs row with
  | false => rw [ca, cb, cc] at h; exact absurd h.symm hf
  | true =>
  rw [ca, cb, cc] at h
  exact e16_core hI hc h5 h8 h2 hnb ca cb cc fun a w hc' => hQ .normal _ a w hc' h
end Go.V
