/- A part of the proof of TopFiguresSaid: no condition beyond what each theorem says. -/
import Derived.Test.YtkohflnifdpahaaGreatF12
import Derived.Test.YtkohflnifdpahaaGreatF08
import Derived.Test.YtkohflnifdpahaaGreatF09
set_option linter.all false
namespace Go.V
open Go.Proofs
noncomputable def specs85a : List Spec := []
def hints85a : List (Nat × List Nat) := [(4000001, [1, 67])]
noncomputable def F85a (N : Nat) (x : (((List (List Int)) × ((List Int) × Unit)) × Unit)) : Out (Unit × (((List (List Int)) × ((List Int) × Unit)) × Unit)) :=
  .ret ((), (x.1, ()))
theorem e85a (N : Nat) (x : (((List (List Int)) × ((List Int) × Unit)) × Unit)) : vfn Tryz.prog (phi specs85a) hints85a N Tryz.f85 false false (.prod (.prod (.list (.list (.int .i64))) (.prod (.list (.int .i64)) .unit)) .unit) (.clo 112 .unit (.prod (.ptr (.prod (.list (.list (.int .i64))) (.prod (.list (.int .i64)) .unit))) .unit)) x = F85a N x := by
  kernel_rfl
noncomputable def f85a (x : (((List (List Int)) × ((List Int) × Unit)) × Unit)) : Out (Unit × (((List (List Int)) × ((List Int) × Unit)) × Unit)) := F85a fuel x
noncomputable def sp85a : Spec := ⟨85, .call, (.prod (.prod (.list (.list (.int .i64))) (.prod (.list (.int .i64)) .unit)) .unit), (.clo 112 .unit (.prod (.ptr (.prod (.list (.list (.int .i64))) (.prod (.list (.int .i64)) .unit))) .unit)), false, false, f85a⟩
theorem c85a : Contract Tryz.prog sp85a := contract_at (l := specs85a) (arg := (.prod (.prod (.list (.list (.int .i64))) (.prod (.list (.int .i64)) .unit)) .unit)) (res := (.clo 112 .unit (.prod (.ptr (.prod (.list (.list (.int .i64))) (.prod (.list (.int .i64)) .unit))) .unit))) (multi := false) (own := false) (F := f85a) mixed all_nil Tryz.func85 rfl hints85a fun x _ => ⟨fuel, e85a fuel x⟩
noncomputable def specs122a : List Spec := []
def hints122a : List (Nat × List Nat) := [(4000001, [2, 106, 3, 3])]
noncomputable def F122a (N : Nat) (x : (((Int × (Int × ((List Int) × ((List Int) × Unit)))) × (Int × Unit)) × (Int × Unit))) : Out (Unit × (((Int × (Int × ((List Int) × ((List Int) × Unit)))) × (Int × Unit)) × (Int × Unit))) :=
  .ret ((), (x.1, (x.2.1, ())))
theorem e122a (N : Nat) (x : (((Int × (Int × ((List Int) × ((List Int) × Unit)))) × (Int × Unit)) × (Int × Unit))) : vfn Tryz.prog (phi specs122a) hints122a N Tryz.f122 false false (.prod (.prod (.prod (.int .i64) (.prod (.int .i64) (.prod (.list (.int .i64)) (.prod (.list (.int .i64)) .unit)))) (.prod (.int .i64) .unit)) (.prod (.int .i64) .unit)) (.clo 136 .unit (.prod (.ptr (.prod (.prod (.int .i64) (.prod (.int .i64) (.prod (.list (.int .i64)) (.prod (.list (.int .i64)) .unit)))) (.prod (.int .i64) .unit))) (.prod (.ptr (.int .i64)) .unit))) x = F122a N x := by
  kernel_rfl
noncomputable def f122a (x : (((Int × (Int × ((List Int) × ((List Int) × Unit)))) × (Int × Unit)) × (Int × Unit))) : Out (Unit × (((Int × (Int × ((List Int) × ((List Int) × Unit)))) × (Int × Unit)) × (Int × Unit))) := F122a fuel x
noncomputable def sp122a : Spec := ⟨122, .call, (.prod (.prod (.prod (.int .i64) (.prod (.int .i64) (.prod (.list (.int .i64)) (.prod (.list (.int .i64)) .unit)))) (.prod (.int .i64) .unit)) (.prod (.int .i64) .unit)), (.clo 136 .unit (.prod (.ptr (.prod (.prod (.int .i64) (.prod (.int .i64) (.prod (.list (.int .i64)) (.prod (.list (.int .i64)) .unit)))) (.prod (.int .i64) .unit))) (.prod (.ptr (.int .i64)) .unit))), false, false, f122a⟩
theorem c122a : Contract Tryz.prog sp122a := contract_at (l := specs122a) (arg := (.prod (.prod (.prod (.int .i64) (.prod (.int .i64) (.prod (.list (.int .i64)) (.prod (.list (.int .i64)) .unit)))) (.prod (.int .i64) .unit)) (.prod (.int .i64) .unit))) (res := (.clo 136 .unit (.prod (.ptr (.prod (.prod (.int .i64) (.prod (.int .i64) (.prod (.list (.int .i64)) (.prod (.list (.int .i64)) .unit)))) (.prod (.int .i64) .unit))) (.prod (.ptr (.int .i64)) .unit)))) (multi := false) (own := false) (F := f122a) mixed all_nil Tryz.func122 rfl hints122a fun x _ => ⟨fuel, e122a fuel x⟩
end Go.V
namespace Go.V
abbrev Hand := St → Option St
section
variable {ρ : Type} (P : Program) (Φ : Nat → List Spec)
end
section
variable {P : Program} [Inv P] {Φ : Nat → List Spec} {ρ : Type}
def HandOK (P : Program) [Inv P] (ops : Array Oper) (i c : Nat) (g : Hand) : Prop :=
  ∀ (F : Nat → Prop) (M0 : Base) (w0 : World) (n : Nat), (∀ w, Fr F w0 w → Inv.I P w) → (∀ j v, M0.pin j = some v → False) →
    ∀ (Q : Exit → Act → World → Prop) (rest : List Nat) st a w st', Conc F M0 w0 st a w → g st = some st' → (∀ a' w', Conc F M0 w0 st' a' w' → wpOpsIn (fen none) n P ops Q rest a' w') →
      wpOpsIn (fen none) n P ops Q (List.range' i (c + 1) ++ rest) a w
end
end Go.V
namespace Go.V
open Go.Proofs
open Go.RowKit (Below)
section
variable {P : Program} [Inv P] {n : Nat} {ops : Array Oper} {Q : Exit → Act → World → Prop} {i : Nat} {o : Oper} {a : Act} {w w' : World} {K : Act → World → Prop}
theorem opn_value (hi : ops[i]? = some o) (hw : Region.wanted o (yielded ops a.tmps) = true) (hd : ∀ c, o.op ≠ .defer c) {v : Value} (hr : (execOp a.eval o).run P w = .ok (.value v) w') (hK : K (a.put o.dst v) w') : wpOpIn (fen none) n P ops Q i K a w := by
  unfold wpOpIn
  simp only [hi]
  rw [hw, if_pos rfl]
  refine ⟨fun f _ => fen_fn none f, ?_⟩
  rw [Oper.semAt_eq _ _ _ fun c e => absurd e (hd c), hr]
  exact hK
theorem opn_enter (hi : ops[i]? = some o) (hw : Region.wanted o (yielded ops a.tmps) = true) (hd : ∀ c, o.op ≠ .defer c) {f : FuncId} {args : Array Value} (hr : (execOp a.eval o).run P w = .ok (.enter f args) w')
    (hK : Calls P f args w' fun e w2 => ∃ v, e = .returned v ∧ K (a.put o.dst v) w2) : wpOpIn (fen none) n P ops Q i K a w := by
  unfold wpOpIn
  simp only [hi]
  rw [hw, if_pos rfl]
  refine ⟨fun f _ => fen_fn none f, ?_⟩
  rw [Oper.semAt_eq _ _ _ fun c e => absurd e (hd c), hr]
  refine ⟨fun hd => (by rw [fen_depth] at hd; cases hd), calls_fen (hK.mono ?_)⟩
  rintro e w2 ⟨v, rfl, h⟩
  exact h
theorem wanted_none (h : o.guard = none) : Region.wanted o (yielded ops a.tmps) = true := by unfold Region.wanted; rw [h]
theorem wanted_some {j t : Nat} {want b : Bool} (h : o.guard = some (j, want)) (ht : (ops[j]?).bind (·.dst) = some t) (hlt : t < a.tmps.size) (hv : tm a t = .bool b) : Region.wanted o (yielded ops a.tmps) = (b == want) := by
  unfold Region.wanted
  rw [h]
  have hy : yielded ops a.tmps j = some b := by
    unfold yielded
    rw [ht]
    have : a.tmps[t]? = some (.bool b) := by
      rw [← hv]
      simp [tm, hlt]
    simp only [Option.bind_some, this]
  dsimp only
  rw [hy]
  cases b <;> cases want <;> rfl
theorem tm_put_same {d : Nat} {v : Value} (h : d < a.tmps.size) : tm (a.put (some d) v) d = v := by
  simp [tm, Act.put, h]
theorem tm_put_other {d j : Nat} {v : Value} (h : j ≠ d) : tm (a.put (some d) v) j = tm a j := by
  simp [tm, Act.put, Array.getElem?_setIfInBounds, Ne.symm h]
theorem size_put {d : Nat} {v : Value} : (a.put (some d) v).tmps.size = a.tmps.size := by simp [Act.put]
theorem defers_put {d : Nat} {v : Value} : (a.put (some d) v).defers = a.defers := by simp [Act.put]
end
noncomputable def findRegion (id : Nat) : Code → Option (Array Oper)
  | .region k ops _ => bif k == id then some ops else none
  | .seq a b => (match findRegion id a with | some c => some c | none => findRegion id b)
  | .block _ b => findRegion id b
  | .scope b => findRegion id b
  | .cond _ a b => (match findRegion id a with | some c => some c | none => findRegion id b)
  | .loop b => findRegion id b
  | _ => none
def opInfo (o : Oper) : Option Tmp × Op × Option (Nat × Bool) := (o.dst, o.op, o.guard)
theorem ex_move {a : Act} {w : World} {o : Oper} {j : Nat} (ho : o.op = .move (.tmp j)) : (execOp a.eval o).run Tryz.prog w = .ok (.value (tm a j)) w := by
  simp [execOp, ho, Act.eval]
theorem ex_assign {a : Act} {w : World} {o : Oper} {j : Nat} (ho : o.op = .assign (.tmp j)) : (execOp a.eval o).run Tryz.prog w = .ok (.value (tm a j)) w := by
  simp [execOp, ho, Act.eval]
theorem opn_skipped {P : Program} [Inv P] {n : Nat} {ops : Array Oper} {Q : Exit → Act → World → Prop} {i : Nat} {o : Oper} {a : Act} {w w' : World} {K : Act → World → Prop} (hi : ops[i]? = some o) (hw : Region.wanted o (yielded ops a.tmps) = true) (hd : ∀ c, o.op ≠ .defer c)
    (hr : (execOp a.eval o).run P w = .ok .skip w') (hK : K (a.put o.dst undef) w') : wpOpIn (fen none) n P ops Q i K a w := by
  unfold wpOpIn
  simp only [hi]
  rw [hw, if_pos rfl]
  refine ⟨fun f _ => fen_fn none f, ?_⟩
  rw [Oper.semAt_eq _ _ _ fun c e => absurd e (hd c), hr]
  exact hK
theorem get_setne {st : St} {i j : Nat} {s : S} (h : i ≠ j) : get (st.set j s) i = get st i := by
  unfold get
  rw [List.getD_eq_getElem?_getD, List.getD_eq_getElem?_getD, List.getElem?_set_ne (Ne.symm h)]
theorem put_und {M0 : Base} {F : Nat → Prop} {M : Mut} {st : St} {a : Act} {w : World} (hg : Good M0 F M st a w) {d : Nat} (hb : isBox (get st d) = false) (v : Value) : Good M0 F M (st.set d .und) (a.put (some d) v) w := by
  have := hg.fin (dst := some d) (s := .und) (v := v) (fun d' hd => by cases hd; exact hb) rfl trivial
  exact this
noncomputable def regAt (id : Nat) (c : Code) : Array Oper := match findRegion id c with | some o => o | none => #[]
theorem infoAt {ops : Array Oper} {L : List (Option Tmp × Op × Option (Nat × Bool))} (h : ops.toList.map opInfo = L) {i : Nat} {x : Option Tmp × Op × Option (Nat × Bool)} (hx : L[i]? = some x) : ∃ o, ops[i]? = some o ∧ o.dst = x.1 ∧ o.op = x.2.1 ∧ o.guard = x.2.2 := by
  rw [← h, List.getElem?_map, Array.getElem?_toList] at hx
  cases h : ops[i]? with
  | none => rw [h] at hx; cases hx
  | some o => rw [h] at hx; cases hx; exact ⟨o, rfl, rfl, rfl, rfl⟩
theorem put_none {a : Act} {v : Value} : a.put none v = a := rfl
theorem get_repl (n i : Nat) : get (List.replicate n S.und) i = .und := by
  unfold get
  rw [List.getD_eq_getElem?_getD, List.getElem?_replicate]
  split <;> rfl
theorem resV_cell {P : Program} {tmps : Array Value} {w : World} {i b : Nat} {T : TypeId} {v : Value} (h : tmps.getD i undef = .pointer (some ⟨b, 0, none⟩)) (hl : (loadVar T ⟨b, 0, none⟩).run P w = .ok v w) : (resV tmps (.cell i T)).run P w = .ok v w := by
  unfold resV
  simp only [h]
  simp [asAddr, hl]
theorem cell_at {W : World} {b : Nat} {cells : Array Value} {T : TypeId} (h : W.heap[b]? = some (.cells cells T (0, 0))) {k : Nat} {u : Value} (hk : cells[k]? = some u) : W.cell? ⟨b, k, none⟩ = some u := (cell_of_row W b k cells T (0, 0) h).trans hk
end Go.V
namespace Go.V
def codeAt : List Nat → Code → Option Code
  | [], c => some c
  | p :: ps, .seq a b => (match p with | 0 => codeAt ps a | _ => codeAt ps b)
  | p :: ps, .cond _ a b => (match p with | 0 => codeAt ps a | _ => codeAt ps b)
  | _ :: ps, .block _ b => codeAt ps b
  | _ :: ps, .loop b => codeAt ps b
  | _ :: ps, .scope b => codeAt ps b
  | _, _ => none
def setC (c : Operand) (st : St) (b : Bool) : St := match c with | .tmp t => st.set t (.d .bool b) | _ => st
theorem setC_self {c : Operand} {st : St} {v : Bool} (e : opnd st c = .d .bool v) : setC c st v = st := by
  cases c with
  | tmp t => exact set_self e (by simp)
  | _ => rfl
section
variable {ρ : Type} (P : Program) (Φ : Nat → List Spec) (hints : List (Nat × List Nat)) (N : Nat)
end
section
variable {P : Program} [Inv P] {Φ : Nat → List Spec} {ρ : Type}
end
end Go.V
namespace Go.V
open Go.RowKit (Below)
structure Hole where
  σ : Type
  hb : σ → World → Nat → Prop
  I : σ → Mut → World → Prop
  keep : ∀ s M w M' w', I s M w → Stable M w M' w' → (∀ b, hb s w b → w'.heap[b]? = w.heap[b]?) → I s M' w'
  same : ∀ s M w w', I s M w → (∀ b, hb s w b → w'.heap[b]? = w.heap[b]?) → ∀ b, hb s w' b → hb s w b
  lt : ∀ s M w b, I s M w → hb s w b → b < w.heap.size
  nd : ∀ s M w b c, I s M w → hb s w b → w.heap[b]? ≠ some (.deferred c)
def GoodH (H : Hole) (F : Nat → Prop) (M0 : Base) (s : H.σ) (M : Mut) (st : St) (a : Act) (w : World) : Prop :=
  H.I s M w ∧ Good M0 F M st a w ∧ ∀ b, H.hb s w b → ¬ F b ∧ (∀ o, M b o) ∧ ∀ i k, ¬ owns st a w i k b
def ConcH (H : Hole) (F : Nat → Prop) (M0 : Base) (w0 : World) (s : H.σ) (st : St) (a : Act) (w : World) : Prop := Fr F w0 w ∧ ∃ M, GoodH H F M0 s M st a w
def apartB (M0 : Base) (B : Nat → Prop) (M : Mut) (w : World) : Base := { mu := fun b o => M0.mu b o ∨ B b, ms := M, ws := w, pin := M0.pin, dm := fun D => M0.dm D ∧ ¬ B D }
theorem marks_imp {q q' : Nat → Prop} {w : World} (h : ∀ D, q D → w.heap[D]? = some (.deferred (some [])) → q' D) : ∀ {ds : List Deferred}, Marks q w ds → Marks q' w ds
  | [], _ => trivial
  | _ :: _, ⟨⟨D, e, h1, h2⟩, h3, h4⟩ => ⟨⟨D, e, h1, h D h2 h1⟩, h3, marks_imp h h4⟩
section
variable {H : Hole} {F : Nat → Prop} {M0 : Base} {w0 : World} {s s' : H.σ} {M : Mut} {st : St} {a : Act} {w : World}
theorem GoodH.focus (h : GoodH H F M0 s M st a w) : Good (apartB M0 (H.hb s w) M w) (fun b => F b ∨ H.hb s w b) M st a w := by
  obtain ⟨hH, hg, hh⟩ := h
  refine ⟨marks_imp (fun D h1 h2 => ⟨h1, fun hB => H.nd s M w D _ hH hB h2⟩) hg.defers, hg.size, fun b hb => hb.elim (hg.room b) (H.lt s M w b hH), fun b o hm => hm.imp (hg.base b o) id, fun b o hm => hm.elim (hg.up b o) fun hB => (hh b hB).2.1 o, hg.lt,
    fun b o hb hm => ?_, hg.slot, hg.one, fun i k b ho hb => ?_, stable_refl _ _, hg.pin, fun D hD => ⟨hg.dm D fun hF => hD (.inl hF), fun hB => hD (.inr hB)⟩⟩
  · rcases hb with hF | hB
    · exact .inl (hg.down b o hF hm)
    · exact .inr hB
  · rcases hb with hF | hB
    · exact hg.new i k b ho hF
    · exact (hh b hB).2.2 i k ho
theorem GoodH.unfocus (h : GoodH H F M0 s M st a w) {M' : Mut} {st' : St} {a' : Act} {w' : World} (hf : Fr (fun b => F b ∨ H.hb s w b) w w') (hg' : Good (apartB M0 (H.hb s w) M w) (fun b => F b ∨ H.hb s w b) M' st' a' w') : GoodH H F M0 s M' st' a' w' := by
  obtain ⟨hH, hg, hh⟩ := h
  have hsm := H.same s M w w' hH fun b hb => hf.block b (.inr hb)
  refine ⟨H.keep s M w M' w' hH hg'.keep fun b hb => hf.block b (.inr hb), ?_, fun b hb => ⟨(hh b (hsm b hb)).1, fun o => hg'.up b o (.inr (hsm b hb)), fun i k ho => hg'.new i k b ho (.inr (hsm b hb))⟩⟩
  exact ⟨hg'.defers.imp fun D hD => hD.1, hg'.size, fun b hb => hg'.room b (.inl hb), hg.base, fun b o hm => hg'.up b o (.inl hm), hg'.lt, fun b o hF hm => (hg'.down b o (.inl hF) hm).resolve_right fun hB => (hh b hB).1 hF,
    hg'.slot, hg'.one, fun i k b ho hF => hg'.new i k b ho (.inl hF), hg.keep.trans hg'.keep, hg'.pin, hg.dm⟩
theorem fr_left {A B : Nat → Prop} {w w' : World} (h : Fr (fun b => A b ∨ B b) w w') : Fr A w w' := ⟨h.os, h.tape, h.output, h.size, fun k hk => h.block k (.inl hk)⟩
theorem ConcH.lift (h : ConcH H F M0 w0 s st a w) :
    ∃ N0 : Base, (∀ j v, N0.pin j = some v → M0.pin j = some v) ∧ Conc (fun b => F b ∨ H.hb s w b) N0 w st a w ∧ ∀ st' a' w', Conc (fun b => F b ∨ H.hb s w b) N0 w st' a' w' → ConcH H F M0 w0 s st' a' w' := by
  obtain ⟨hfr, M, h⟩ := h
  exact ⟨apartB M0 (H.hb s w) M w, fun j v hj => hj, ⟨Fr.refl _ _, M, h.focus⟩, fun st' a' w' ⟨hf, M', hg'⟩ => ⟨hfr.trans (fr_left hf), M', h.unfocus hf hg'⟩⟩
theorem GoodH.turn (h : GoodH H F M0 s M st a w) {w' : World} (hf : Fr (fun k => k < w.heap.size ∧ ¬ H.hb s w k) w w') (hs : ∀ w1 : World, w1.heap.size = w.heap.size → Fr (fun k => k < w.heap.size ∧ ¬ H.hb s w k) w w1 → (∀ k, H.hb s w k → w1.heap[k]? = w'.heap[k]?) → H.I s' M w1 ∧ ∀ b, H.hb s' w1 b → H.hb s w b) :
    ∃ w1, GoodH H F M0 s' M st a w1 ∧ w1.heap.size = w.heap.size ∧ Below w1.heap.size w1 w' ∧ Fr F w w1 := by
  obtain ⟨hH, hg, hh⟩ := h
  classical
  obtain ⟨w1, hw1⟩ : ∃ w1 : World, w1 = { w with heap := w.heap.mapIdx fun i ob => if H.hb s w i then (w'.heap[i]?).getD ob else ob } := ⟨_, rfl⟩
  have hsz : w1.heap.size = w.heap.size := by rw [hw1]; simp
  have hin : ∀ k, H.hb s w k → w1.heap[k]? = w'.heap[k]? := fun k hk => by
    have hlt : k < w.heap.size := H.lt s M w k hH hk
    have hlt' : k < w'.heap.size := Nat.lt_of_lt_of_le hlt hf.size
    rw [hw1]
    simp [hk, hlt, hlt']
  have hout : ∀ k, ¬ H.hb s w k → w1.heap[k]? = w.heap[k]? := fun k hk => by
    rw [hw1]
    simp only [Array.getElem?_mapIdx, if_neg hk]
    cases w.heap[k]? <;> rfl
  have hos : w1.os = w.os ∧ w1.tape = w.tape ∧ w1.output = w.output := by rw [hw1]; exact ⟨rfl, rfl, rfl⟩
  have hFn : ∀ b, F b → ¬ H.hb s w b := fun b hF hB => (hh b hB).1 hF
  have hbl : Fr (· < w1.heap.size) w1 w' := by
    refine ⟨hf.os.trans hos.1.symm, hf.tape.trans hos.2.1.symm, hf.output.trans hos.2.2.symm, hsz ▸ hf.size, fun k hk => ?_⟩
    by_cases hB : H.hb s w k
    · exact (hin k hB).symm
    · rw [hout k hB]; exact hf.block k ⟨hsz ▸ hk, hB⟩
  obtain ⟨hs1, hsub⟩ := hs w1 hsz ⟨hos.1, hos.2.1, hos.2.2, Nat.le_of_eq hsz.symm, fun k hk => hout k hk.2⟩ hin
  refine ⟨w1, ⟨hs1, ?_, fun b hb => ?_⟩, hsz, hbl.toBelow, ⟨hos.1, hos.2.1, hos.2.2, Nat.le_of_eq hsz.symm, fun k hF => hout k (hFn k hF)⟩⟩
  · refine hg.world (M' := M) (fun b o v hc hm => ⟨?_, hm⟩) (Nat.le_of_eq hsz.symm) hg.up (fun b o hm => hsz ▸ hg.lt b o hm) hg.down (fun D c e => (hout D fun hB => H.nd s M w D c hH hB e).trans e) fun i k b ho => ⟨hout b fun hB => (hh b hB).2.2 i k ho, fun _ h => h⟩
    exact (World.cell?_of_block (a := ⟨b, o, none⟩) (hout b fun hB => hm ((hh b hB).2.1 o))).trans hc
  · obtain ⟨h1, h2, h3⟩ := hh b (hsub b hb)
    exact ⟨h1, h2, fun i k ho => h3 i k (owns_world (fun i b' ho' => hout b' fun hB => (hh b' hB).2.2 i none ho') ho)⟩
end
def MContract (P : Program) [Inv P] (H : Hole) (s : H.σ) (sp : Spec) : Prop :=
  ∀ (x : sp.arg.den) (M : Mut) (w : World) (vs : Array Value) (r : sp.res.den), Inv.I P w → H.I s M w → RepT M w sp.arg vs.toList x → (∀ b o, M b o → b < w.heap.size) → (∀ b, H.hb s w b → ∀ o, M b o) → sp.f x = .ret r →
    Calls P sp.fn vs w fun e w' => ∃ v, e = .returned v ∧ Fr (fun k => k < w.heap.size ∧ ¬ H.hb s w k) w w' ∧ (∀ w1 : World, w1.heap.size = w.heap.size → Fr (fun k => k < w.heap.size ∧ ¬ H.hb s w k) w w1 → (∀ k, H.hb s w k → w1.heap[k]? = w'.heap[k]?) → H.I s M w1 ∧ ∀ b, H.hb s w1 b → H.hb s w b) ∧ ResOK M w w' sp.multi sp.own sp.res v r
def CallH (P : Program) [Inv P] (H : Hole) (s : H.σ) (sp : Spec) : Prop := Contract P sp ∨ (sp.kind = .call ∧ MContract P H s sp)
inductive Outs (H : Hole) where
  | some (l : List (H.σ × St))
  | each (f : Value → H.σ × St)
def Outs.mem {H : Hole} (z : H.σ × St) : Outs H → Prop
  | .some l => z ∈ l
  | .each f => ∃ v, z = f v
structure HdH (H : Hole) where
  run : {ρ : Type} → (X → H.σ → St → Out ρ) → H.σ → St → Out ρ
def subL {α : Type 1} (i : Nat) : List (List Nat × α) → List (List Nat × α)
  | [] => []
  | (j :: ps, E) :: T => if j = i then (ps, E) :: subL i T else subL i T
  | ([], _) :: T => subL i T
def hereL {α : Type 1} : List (List Nat × α) → Option α
  | [] => none
  | ([], E) :: _ => some E
  | (_ :: _, _) :: T => hereL T
def pickQ {α : Type 1} {ρ : Type} (T : List (List Nat × α)) (old : Out ρ) (hand : α → Out ρ) (new : Out ρ) : Out ρ :=
  match T with
  | [] => old
  | _ :: _ => (match hereL T with
    | some E => hand E
    | none => new)
def iterQ {σ ρ : Type} (f : (X → σ → St → Out ρ) → σ → St → Out ρ) (mask : St → St) (k : X → σ → St → Out ρ) : Nat → σ → St → Out ρ
  | 0, _, _ => .fail
  | n + 1, s, st => f (fun e s st => match e with | .normal => iterQ f mask k n s (mask st) | e => k e s st) s st
noncomputable def both {α : Type} (a b : Out α) : Out α := open Classical in if a = b then a else .fail
theorem both_ok {α : Type} {a b fin : Out α} (hf : fin ≠ .fail) (h : both a b = fin) : a = fin ∧ b = fin := by
  unfold both at h
  split at h
  · rename_i e; exact ⟨h, e ▸ h⟩
  · exact absurd h.symm hf
noncomputable def anyOf {α ρ : Type} (go : α → Out ρ) : List α → Out ρ
  | [] => .fail
  | [z] => go z
  | z :: y :: zs => both (go z) (anyOf go (y :: zs))
theorem anyOf_ok {α ρ : Type} {go : α → Out ρ} {fin : Out ρ} (hf : fin ≠ .fail) : ∀ {l : List α}, anyOf go l = fin → l ≠ [] ∧ ∀ z ∈ l, go z = fin
  | [], h => absurd h.symm hf
  | [z], h => ⟨by simp, fun y hy => by rw [List.mem_singleton] at hy; subst hy; exact h⟩
  | z :: y :: zs, h => by
    obtain ⟨h1, h2⟩ := both_ok hf h
    obtain ⟨_, h3⟩ := anyOf_ok hf h2
    refine ⟨by simp, fun x hx => ?_⟩
    rcases List.mem_cons.1 hx with rfl | hx
    · exact h1
    · exact h3 x hx
noncomputable def allOf {α ρ : Type} (go : α → Out ρ) : Out ρ := open Classical in if h : ∃ r, ∀ z, go z = r then h.choose else .fail
theorem allOf_ok {α ρ : Type} {go : α → Out ρ} {fin : Out ρ} (hf : fin ≠ .fail) (h : allOf go = fin) : ∀ z, go z = fin := by
  unfold allOf at h
  split at h
  · rename_i he; intro z; rw [← h]; exact he.choose_spec z
  · exact absurd h.symm hf
theorem allOf_eq {α ρ : Type} [Inhabited α] {go : α → Out ρ} {r : Out ρ} (h : ∀ z, go z = r) : allOf go = r := by
  unfold allOf
  have he : ∃ r, ∀ z, go z = r := ⟨r, h⟩
  rw [dif_pos he]
  exact (he.choose_spec default).symm.trans (h default)
noncomputable def outsOf {H : Hole} {ρ : Type} (go : H.σ × St → Out ρ) : Outs H → Out ρ
  | .some l => anyOf go l
  | .each f => allOf fun v => go (f v)
theorem outsOf_ok {H : Hole} {ρ : Type} {go : H.σ × St → Out ρ} {fin : Out ρ} (hf : fin ≠ .fail) : ∀ {o : Outs H}, outsOf go o = fin → (∃ z, o.mem z) ∧ ∀ z, o.mem z → go z = fin
  | .some l, h => by
    obtain ⟨h1, h2⟩ := anyOf_ok hf (show anyOf go l = fin from h)
    obtain ⟨z, hz⟩ := List.exists_mem_of_ne_nil _ h1
    exact ⟨⟨z, hz⟩, h2⟩
  | .each f, h => by
    have h1 := allOf_ok hf (show (allOf fun v => go (f v)) = fin from h)
    exact ⟨⟨f default, default, rfl⟩, fun z ⟨v, hv⟩ => hv ▸ h1 v⟩
section
variable {ρ : Type} (P : Program) (H : Hole) (Φ : Nat → List Spec) (hints : List (Nat × List Nat)) (N : Nat)
def vhq : Code → List (List Nat × HdH H) → (X → H.σ → St → Out ρ) → H.σ → St → Out ρ
  | .seq a b, T, k, s, st => pickQ T (vexec P Φ hints N (.seq a b) none (fun x st => k x s st) st) (fun E => E.run k s st) (vhq a (subL 0 T) (fun e s st => match e with | .normal => vhq b (subL 1 T) k s st | e => k e s st) s st)
  | .cond c a b, T, k, s, st => pickQ T (vexec P Φ hints N (.cond c a b) none (fun x st => k x s st) st) (fun E => E.run k s st)
    (match opnd st c with
     | .d .bool v => (match v with
       | true => vhq a (subL 0 T) k s (setC c st true)
       | false => vhq b (subL 1 T) k s (setC c st false))
     | _ => .fail)
  | .block id b, T, k, s, st => pickQ T (vexec P Φ hints N (.block id b) none (fun x st => k x s st) st) (fun E => E.run k s st) (vhq b (subL 0 T) (fun e s st => match e with
      | .exit i => if i = id then k .normal s st else k (.exit i) s st
      | e => k e s st) s st)
  | .loop b, T, k, s, st => pickQ T (vexec P Φ hints N (.loop b) none (fun x st => k x s st) st) (fun E => E.run k s st) (iterQ (fun k' s st => vhq b (subL 0 T) k' s st) (maskOf hints b) k N s (maskOf hints b st))
  | .scope b, T, k, s, st => pickQ T (vexec P Φ hints N (.scope b) none (fun x st => k x s st) st) (fun E => E.run k s st) (vhq b (subL 0 T) k s st)
  | c, T, k, s, st => pickQ T (vexec P Φ hints N c none (fun x st => k x s st) st) (fun E => E.run k s st) .fail
def walkQ (fin : Code → List (List Nat × HdH H) → (X → H.σ → St → Out ρ) → Out ρ) : List Nat → Code → List (List Nat × HdH H) → (X → H.σ → St → Out ρ) → Out ρ
  | [], c, T, k => fin c T k
  | p :: ps, .seq a b, T, k => (match p with
    | 0 => walkQ fin ps a (subL 0 T) (fun e s st => match e with | .normal => vhq P H Φ hints N b (subL 1 T) k s st | e => k e s st)
    | _ => walkQ fin ps b (subL 1 T) k)
  | p :: ps, .cond _ a b, T, k => (match p with | 0 => walkQ fin ps a (subL 0 T) k | _ => walkQ fin ps b (subL 1 T) k)
  | _ :: ps, .block id b, T, k => walkQ fin ps b (subL 0 T) (fun e s st => match e with
      | .exit i => if i = id then k .normal s st else k (.exit i) s st
      | e => k e s st)
  | n :: ps, .loop b, T, k => walkQ fin ps b (subL 0 T) (fun e s st => match e with | .normal => iterQ (fun k' s st => vhq P H Φ hints N b (subL 0 T) k' s st) (maskOf hints b) k n s (maskOf hints b st) | e => k e s st)
  | _ :: ps, .scope b, T, k => walkQ fin ps b (subL 0 T) k
  | _, _, _, _ => .fail
def kEndQ (rs : List ResultVar) (multi own : Bool) (t : Ty) : X → H.σ → St → Out (H.σ × t.den) := fun e s st => match e with
    | .normal => (match vres P rs multi own t st with | .ret r => .ret (s, r) | _ => .fail)
    | .ret => (match vres P rs multi own t st with | .ret r => .ret (s, r) | _ => .fail)
    | _ => .fail
def vfnQ (T : List (List Nat × HdH H)) (f : Func) (multi own : Bool) (a t : Ty) (s : H.σ) (x : a.den) : Out (H.σ × t.den) :=
  vhq P H Φ hints N (bodyOf f) T (kEndQ P H f.results.toList multi own t) s (st0 f.ntmps a x)
def vloopQ (T : List (List Nat × HdH H)) (f : Func) (multi own : Bool) (t : Ty) (path : List Nat) (n : Nat) (s : H.σ) (st : St) : Out (H.σ × t.den) :=
  walkQ P H Φ hints N (fun c T k => match c with
    | .loop b => iterQ (fun k' s st => vhq P H Φ hints N b (subL 0 T) k' s st) (maskOf hints b) k n s st
    | _ => .fail) path (bodyOf f) T (kEndQ P H f.results.toList multi own t)
noncomputable def hlexQ (Ψ : H.σ → Nat → List Spec) (D : Nat → Option (Nat × (H.σ → St → Bool × Outs H))) (ops : Array Oper) (k : H.σ → St → Out ρ) : List Oper → Nat → Nat → H.σ → St → Out ρ
  | [], _, 0, s, st => k s st
  | [], _, _ + 1, _, _ => .fail
  | _ :: rest, i, c + 1, s, st => hlexQ Ψ D ops k rest (i + 1) c s st
  | o :: rest, i, 0, s, st => match D i with
    | some y => bif (y.2 s st).1 then outsOf (fun z => hlexQ Ψ D ops k rest (i + 1) y.1 z.1 z.2) (y.2 s st).2 else .fail
    | none => vop P (Ψ s) (fun _ _ => .fail) ops o (fun _ st' => hlexQ Ψ D ops k rest (i + 1) 0 s st') st
end
section
variable {P : Program} [Inv P] {H : Hole} {Φ : Nat → List Spec} {ρ : Type}
def EOKH (P : Program) [Inv P] (H : Hole) (c : Code) (E : {ρ : Type} → (X → H.σ → St → Out ρ) → H.σ → St → Out ρ) : Prop :=
  ∀ {ρ : Type} {fin : Out ρ} (_ : fin ≠ .fail) (_ : ∀ p, fin ≠ .pan p) (F : Nat → Prop) (M0 : Base) (w0 : World) (n : Nat), (∀ w, Fr F w0 w → Inv.I P w) → (∀ j v, M0.pin j = some v → False) →
    ∀ (k : X → H.σ → St → Out ρ) (Q : Exit → Act → World → Prop),
      (∀ x s st a w, ConcH H F M0 w0 s st a w → k x s st = fin → Q x.exit' a w) → ∀ s st a w, ConcH H F M0 w0 s st a w → E k s st = fin → c.wpIn (fen none) n P Q a w
def AllQ (P : Program) [Inv P] (H : Hole) (c : Code) (T : List (List Nat × HdH H)) : Prop := ∀ e ∈ T, ∃ c', codeAt e.1 c = some c' ∧ EOKH P H c' (fun {ρ} k s st => e.2.run (ρ := ρ) k s st)
theorem mem_subL {α : Type 1} {i : Nat} {e : List Nat × α} : ∀ {T : List (List Nat × α)}, e ∈ subL i T → (i :: e.1, e.2) ∈ T
  | [], h => by cases h
  | (j :: ps, E) :: T, h => by
    unfold subL at h
    split at h
    · rename_i hj
      rcases List.mem_cons.1 h with rfl | h
      · subst hj; exact List.mem_cons_self ..
      · exact List.mem_cons_of_mem _ (mem_subL h)
    · exact List.mem_cons_of_mem _ (mem_subL h)
  | ([], _) :: T, h => List.mem_cons_of_mem _ (mem_subL (T := T) h)
theorem mem_hereL {α : Type 1} {E : α} : ∀ {T : List (List Nat × α)}, hereL T = some E → ([], E) ∈ T
  | [], h => by cases h
  | ([], _) :: _, h => by cases h; exact List.mem_cons_self ..
  | (_ :: _, _) :: T, h => List.mem_cons_of_mem _ (mem_hereL (T := T) h)
theorem allQ_nil {c : Code} : AllQ P H c [] := fun _ h => absurd h List.not_mem_nil
theorem allQ_cons {c c' : Code} {p : List Nat} {E : HdH H} {T : List (List Nat × HdH H)} (h1 : codeAt p c = some c') (h2 : EOKH P H c' (fun {ρ} k s st => E.run (ρ := ρ) k s st)) (hT : AllQ P H c T) : AllQ P H c ((p, E) :: T) := by
  intro e he
  rcases List.mem_cons.1 he with rfl | he
  · exact ⟨c', h1, h2⟩
  · exact hT e he
theorem AllQ.seq {a b : Code} {T : List (List Nat × HdH H)} (h : AllQ P H (.seq a b) T) : AllQ P H a (subL 0 T) ∧ AllQ P H b (subL 1 T) :=
  ⟨fun e he => h _ (mem_subL he), fun e he => h _ (mem_subL he)⟩
theorem AllQ.cond {c : Operand} {a b : Code} {T : List (List Nat × HdH H)} (h : AllQ P H (.cond c a b) T) : AllQ P H a (subL 0 T) ∧ AllQ P H b (subL 1 T) :=
  ⟨fun e he => h _ (mem_subL he), fun e he => h _ (mem_subL he)⟩
def HOKQ (P : Program) [Inv P] (H : Hole) (Φ : Nat → List Spec) (hints : List (Nat × List Nat)) (N : Nat) {ρ : Type} (fin : Out ρ) (c : Code) : Prop :=
  ∀ (T : List (List Nat × HdH H)), AllQ P H c T → ∀ (F : Nat → Prop) (M0 : Base) (w0 : World) (n : Nat), (∀ w, Fr F w0 w → Inv.I P w) → (∀ j v, M0.pin j = some v → False) →
    ∀ (k : X → H.σ → St → Out ρ) (Q : Exit → Act → World → Prop),
      (∀ x s st a w, ConcH H F M0 w0 s st a w → k x s st = fin → Q x.exit' a w) → ∀ s st a w, ConcH H F M0 w0 s st a w → vhq P H Φ hints N c T k s st = fin → c.wpIn (fen none) n P Q a w
theorem ConcH.inv {F : Nat → Prop} {M0 : Base} {w0 : World} {s : H.σ} {st : St} {a : Act} {w : World} (hc : ConcH H F M0 w0 s st a w) (hI : ∀ w, Fr F w0 w → Inv.I P w) : ∀ w', Fr (fun b => F b ∨ H.hb s w b) w w' → Inv.I P w' :=
  fun w' hf => hI w' (hc.1.trans (fr_left hf))
theorem pickQ_ok (hΦ : ∀ g sp, sp ∈ Φ g → Contract P sp) (hm : P.follows .mixedOrders = true) (hints : List (Nat × List Nat)) (N : Nat) {fin : Out ρ} (hf : fin ≠ .fail) (hr : ∀ p, fin ≠ .pan p) {c : Code} {T : List (List Nat × HdH H)} (hT : AllQ P H c T) {F : Nat → Prop} {M0 : Base} {w0 : World} {n : Nat}
    (hI : ∀ w, Fr F w0 w → Inv.I P w) (hpl : ∀ j v, M0.pin j = some v → False) {k : X → H.σ → St → Out ρ} {Q : Exit → Act → World → Prop}
    (hQ : ∀ x s st a w, ConcH H F M0 w0 s st a w → k x s st = fin → Q x.exit' a w) {s : H.σ} {st : St} {a : Act} {w : World} (hc : ConcH H F M0 w0 s st a w) {new : Out ρ} (h : pickQ T (vexec P Φ hints N c none (fun x st => k x s st) st) (fun E => E.run k s st) new = fin)
    (hnew : new = fin → c.wpIn (fen none) n P Q a w) : c.wpIn (fen none) n P Q a w := by
  unfold pickQ at h
  split at h
  · obtain ⟨N0, hpn, hcl, hback⟩ := hc.lift
    exact code_ok hΦ hm hints N hf c _ _ w none none n (fun _ => rfl) (hc.inv hI) (fun j v hj => (hpl j v (hpn j v hj)).elim) (fun x st => k x s st) Q (fun _ p q hp => absurd hp (hr p)) (fun x st a w hc h => hQ x s st a w (hback _ _ _ hc) h) st a w hcl h
  · split at h
    · rename_i E hE
      obtain ⟨c', e1, e2⟩ := hT _ (mem_hereL hE)
      cases e1
      exact e2 hf hr F M0 w0 n hI hpl k Q hQ s st a w hc h
    · exact hnew h
theorem ConcH.maskOf {F : Nat → Prop} {M0 : Base} {w0 : World} {s : H.σ} {st : St} {a : Act} {w : World} (h : ConcH H F M0 w0 s st a w) {hints : List (Nat × List Nat)} {b : Code} (hpl : ∀ j v, M0.pin j = some v → False) : ConcH H F M0 w0 s (Go.V.maskOf hints b st) a w := by
  obtain ⟨N0, hpn, hcl, hback⟩ := h.lift
  exact hback _ _ _ (hcl.maskOf fun j v hj => (hpl j v (hpn j v hj)).elim)
theorem vhq_ok (hΦ : ∀ g sp, sp ∈ Φ g → Contract P sp) (hm : P.follows .mixedOrders = true) (hints : List (Nat × List Nat)) (N : Nat) {fin : Out ρ} (hf : fin ≠ .fail) (hr : ∀ p, fin ≠ .pan p) : ∀ (c : Code), HOKQ P H Φ hints N fin c := by
  intro c
  induction c with
  | seq x y ihx ihy =>
    intro T hT F M0 w0 n hI hpl k Q hQ s st a w hc h
    unfold vhq at h
    refine pickQ_ok hΦ hm hints N hf hr hT hI hpl hQ hc h fun h => ?_
    refine wpIn_seq (ihx _ hT.seq.1 F M0 w0 n hI hpl _ _ ?_ s st a w hc h)
    intro e s st a w hc h
    cases e with
    | normal => exact ihy _ hT.seq.2 F M0 w0 n hI hpl k Q hQ s st a w hc h
    | exit i => exact hQ (.exit i) s st a w hc h
    | ret => exact hQ .ret s st a w hc h
  | cond c x y ihx ihy =>
    intro T hT F M0 w0 n hI hpl k Q hQ s st a w hc h
    unfold vhq at h
    refine pickQ_ok hΦ hm hints N hf hr hT hI hpl hQ hc h fun h => ?_
    split at h
    rotate_left
    · exact absurd h.symm hf
    rename_i v e
    obtain ⟨hb, M, hg⟩ := id hc
    refine wpIn_cond (slot_bool (e ▸ opnd_ok hg.2.1 c)) ?_
    cases v with
    | true =>
      dsimp only at h
      rw [setC_self e] at h
      exact ihx _ hT.cond.1 F M0 w0 n hI hpl k Q hQ s st a w hc h
    | false =>
      dsimp only at h
      rw [setC_self e] at h
      exact ihy _ hT.cond.2 F M0 w0 n hI hpl k Q hQ s st a w hc h
  | block id b ih =>
    intro T hT F M0 w0 n hI hpl k Q hQ s st a w hc h
    unfold vhq at h
    refine pickQ_ok hΦ hm hints N hf hr hT hI hpl hQ hc h fun h => ?_
    refine wpIn_block (ih _ (fun e he => hT _ (mem_subL he)) F M0 w0 n hI hpl _ _ ?_ s st a w hc h)
    intro x s st a w hc h
    cases x with
    | normal => exact hQ .normal s st a w hc h
    | ret => exact hQ .ret s st a w hc h
    | exit i =>
      show if i = id then _ else _
      dsimp only at h
      split
      · rename_i e; rw [if_pos e] at h; exact hQ .normal s st a w hc h
      · rename_i e; rw [if_neg e] at h; exact hQ (.exit i) s st a w hc h
  | loop b ih =>
    intro T hT F M0 w0 n hI hpl k Q hQ s st a w hc h
    unfold vhq at h
    refine pickQ_ok hΦ hm hints N hf hr hT hI hpl hQ hc h fun h => ?_
    have key : ∀ m s st a w, ConcH H F M0 w0 s st a w → iterQ (fun k' s st => vhq P H Φ hints N b (subL 0 T) k' s st) (Go.V.maskOf hints b) k m s st = fin → Code.roundsIn (fen none) n P b Q m a w := by
      intro m
      induction m with
      | zero => intro s st a w _ h; exact absurd h.symm hf
      | succ m ihm =>
        intro s st a w hc h
        refine ih _ (fun e he => hT _ (mem_subL he)) F M0 w0 n hI hpl _ _ ?_ s st a w hc h
        intro x s st a w hc h
        cases x with
        | normal => exact ihm s _ a w (hc.maskOf hpl) h
        | exit i => exact hQ (.exit i) s st a w hc h
        | ret => exact hQ .ret s st a w hc h
    exact wpIn_loop_rounds N (key N s _ a w (hc.maskOf hpl) h)
  | scope b ih =>
    intro T hT F M0 w0 n hI hpl k Q hQ s st a w hc h
    unfold vhq at h
    refine pickQ_ok hΦ hm hints N hf hr hT hI hpl hQ hc h fun h => ?_
    refine wpIn_wide.2 (wp_scope_straight ((wpIn_wide (n := n)).1 (ih _ (fun e he => hT _ (mem_subL he)) F M0 w0 n hI hpl k _ ?_ s st a w hc h)))
    intro x s st a w hc h
    have := hQ x s st a w hc h
    cases x <;> exact this
  | _ =>
    intro T hT F M0 w0 n hI hpl k Q hQ s st a w hc h
    unfold vhq at h
    exact pickQ_ok hΦ hm hints N hf hr hT hI hpl hQ hc h fun h => absurd h.symm hf
theorem GoodH.res {F : Nat → Prop} {M0 : Base} {s : H.σ} {M : Mut} {st : St} {a : Act} {w : World} {o : Oper} (h : GoodH H F M0 s M st a w) (hnb : dstBox o st = false) {w' : World} (hf : Fr (fun k => k < w.heap.size ∧ ¬ H.hb s w k) w w') {s' : H.σ} (hs : ∀ w1 : World, w1.heap.size = w.heap.size → Fr (fun k => k < w.heap.size ∧ ¬ H.hb s w k) w w1 → (∀ k, H.hb s w k → w1.heap[k]? = w'.heap[k]?) → H.I s' M w1 ∧ ∀ b, H.hb s' w1 b → H.hb s w b) {multi own : Bool} {t : Ty} {v : Value} {r : t.den}
    (hr : ResOK M w w' multi own t v r) : Fr F w w' ∧ ∃ M', GoodH H F M0 s' M' (app (o.dst.toList.map (·, mkRes multi own t r)) st) (a.put o.dst v) w' := by
  obtain ⟨w1, h1, hsz, hbel, hf1⟩ := h.turn hf hs
  have hr1 : ResOK M w1 w' multi own t v r := by
    obtain ⟨M', e1, e2, e3, e4⟩ := hr
    exact ⟨M', e1, fun b o hm => by rw [hsz]; exact e2 b o hm, e3, fun b e5 e6 => by rw [hsz]; exact e4 b e5 e6⟩
  obtain ⟨M', hg'⟩ := h1.focus.res hnb hbel hr1
  have hf' : Fr (fun b => F b ∨ H.hb s' w1 b) w1 w' := Fr.below hbel h1.focus.room
  exact ⟨hf1.trans (fr_left hf'), M', h1.unfocus hf' hg'⟩
theorem decQ_wp {s : H.σ} (hΦ : ∀ g sp, sp ∈ Φ g → CallH P H s sp) {F : Nat → Prop} {M0 : Base} {w0 : World} (hI : ∀ w, Fr F w0 w → Inv.I P w) {n : Nat} {st : St} {a : Act} {w : World} {o : Oper} (hc : ConcH H F M0 w0 s st a w) {ops : Array Oper} {i : Nat} (hi : ops[i]? = some o) {g : Nat} {wr : List (Nat × S)} (h : Dec P Φ ops o st g wr)
    {K : Act → World → Prop} {Q : Exit → Act → World → Prop} (hK : ∀ a' w', ConcH H F M0 w0 s (app wr st) a' w' → K a' w') : wpOpIn (fen none) n P ops Q i K a w := by
  obtain ⟨hnb, b, hw, hrest⟩ := h
  obtain ⟨N0, hpn, ⟨hb, M, hg⟩, hback⟩ := hc.lift
  have hI' := hc.inv hI
  have hwant := wantS_ok hg hw
  unfold wpOpIn
  simp only [hi]
  rw [hwant]
  cases b with
  | false =>
    rw [if_neg (by simp)]
    obtain ⟨_, rfl⟩ := hrest
    exact ⟨fun f _ => fen_fn none f, hK _ _ (hback _ _ _ ⟨hb, M, hg.fin (nobox_of hnb) rfl ⟨[], rfl, rfl⟩⟩)⟩
  | true =>
    rw [if_pos rfl]
    rcases hrest.2 with ⟨y, r, hy, hr, rfl⟩ | h
    · obtain ⟨h1, hk, e, t1, e2, he, xs, z, ys, hot, v1, v2, g1, g2, g3, g4, g5, g6, g7⟩ := op_take hg hy
      rcases hΦ _ _ h1 with hct | ⟨hk', _⟩
      rotate_left
      · rw [hk] at hk'; cases hk'
      unfold Contract at hct
      rw [hk] at hct
      have harr : ArrAt M w e (tm a y.2.2) xs := by have := hg.slot y.2.2; rw [g1] at this; exact this
      have hct := hct e t1 e2 he xs z ys M w (tm a y.2.2) v1 v2 r (hI' _ hb) harr g4 g5 g6 g7 hg.lt (fun x hx => by
        have : x = y.2.1 := takeX_inj he (hx.trans g2.symm)
        rw [this]; exact hr)
      refine ⟨fun f _ => fen_fn none f, ?_⟩
      rw [take_sem hy, g3]
      refine ⟨fun hd => by rw [fen_depth] at hd; simp at hd, calls_fen (hct.mono fun e w' he => ?_)⟩
      obtain ⟨v, rfl, hb', M', m1, m2, m3, m4⟩ := he
      obtain ⟨f1, f2⟩ := hg.take hnb g1 hb' m1 m2 m3 m4
      exact hK _ _ (hback _ _ _ ⟨hb.trans f1, M', f2⟩)
    have hne : vpre P Φ o st ≠ .bad := by
      rcases h with ⟨rd, h⟩ | ⟨i, n, rd, f, j, h, _⟩ | ⟨sp, x, rd, r, h, _⟩ <;> rw [h] <;> simp
    refine ⟨fun f _ => fen_fn none f, ?_⟩
    rw [semAt_of hne]
    have fin : ORun P (fun b => F b ∨ H.hb s w b) N0 w o a w (app wr st) → o.uponIn (fen none) n P a K Q ((execOp a.eval o).run P w) := by
      rintro ⟨v, w', hr, hb', M', hg'⟩
      rcases hr with hr | ⟨hr, rfl⟩
      · rw [hr]; exact hK _ _ (hback _ _ _ ⟨hb', M', hg'⟩)
      · rw [hr]; exact hK _ _ (hback _ _ _ ⟨hb', M', hg'⟩)
    rcases h with ⟨rd, h⟩ | ⟨i, n, rd, f, j, h, hj, hij, rfl⟩ | ⟨sp, x, rd, r, h, hr, rfl⟩
    · exact fin (op_eff hg hb (nobox_of hnb) h rfl)
    · exact fin (op_cse hg hb (nobox_of hnb) h hj hij)
    · obtain ⟨h1, hk, vs, h2, h3⟩ := op_call hg h
      rcases hΦ _ _ h1 with hct | ⟨_, hct⟩
      · unfold Contract at hct
        rw [hk] at hct
        have hct := hct x M w vs (hI' _ hb) h3 hg.lt
        rw [hr] at hct
        rw [h2]
        refine ⟨fun hd => by rw [fen_depth] at hd; simp at hd, calls_fen (hct.mono fun e w' he => ?_)⟩
        obtain ⟨v, rfl, hb', hres⟩ := he
        obtain ⟨M', hg'⟩ := hg.res hnb hb' hres
        exact hK _ _ (hback _ _ _ ⟨hb.trans (Fr.below hb' hg.room), M', hg'⟩)
      · obtain ⟨hfr0, M2, hG⟩ := id hc
        obtain ⟨h1', hk', vs', h2', h3'⟩ := op_call hG.2.1 h
        have hct := hct x M2 w vs' r (hI' _ hb) hG.1 h3' hG.2.1.lt (fun b hB => (hG.2.2 b hB).2.1) hr
        rw [h2']
        refine ⟨fun hd => by rw [fen_depth] at hd; simp at hd, calls_fen (hct.mono fun e w' he => ?_)⟩
        obtain ⟨v, rfl, hf', hs', hres⟩ := he
        obtain ⟨e1, M', hg'⟩ := hG.res hnb hf' hs' hres
        exact hK _ _ ⟨hfr0.trans e1, M', hg'⟩
def HandQ (P : Program) [Inv P] (H : Hole) (ops : Array Oper) (i c : Nat) (g : H.σ → St → Bool × Outs H) : Prop :=
  ∀ (F : Nat → Prop) (M0 : Base) (w0 : World) (n : Nat), (∀ w, Fr F w0 w → Inv.I P w) → (∀ j v, M0.pin j = some v → False) →
    ∀ (Q : Exit → Act → World → Prop) (rest : List Nat) s st a w, ConcH H F M0 w0 s st a w → (g s st).1 = true → (∀ z, (g s st).2.mem z → ∀ a' w', ConcH H F M0 w0 z.1 z.2 a' w' → wpOpsIn (fen none) n P ops Q rest a' w') →
      wpOpsIn (fen none) n P ops Q (List.range' i (c + 1) ++ rest) a w
def HandOp (P : Program) [Inv P] (H : Hole) (ops : Array Oper) (i : Nat) (g : H.σ → St → Bool × Outs H) : Prop :=
  ∀ (F : Nat → Prop) (M0 : Base) (w0 : World) (n : Nat), (∀ w, Fr F w0 w → Inv.I P w) → (∀ j v, M0.pin j = some v → False) →
    ∀ (Q : Exit → Act → World → Prop) (K : Act → World → Prop) s st a w, ConcH H F M0 w0 s st a w → (g s st).1 = true → (∀ z, (g s st).2.mem z → ∀ a' w', ConcH H F M0 w0 z.1 z.2 a' w' → K a' w') →
      wpOpIn (fen none) n P ops Q i K a w
theorem hlexQ_skip {Ψ : H.σ → Nat → List Spec} {D : Nat → Option (Nat × (H.σ → St → Bool × Outs H))} {ops : Array Oper} {k : H.σ → St → Out ρ} {fin : Out ρ} (hf : fin ≠ .fail) : ∀ (l : List Oper) (i c : Nat) (s : H.σ) (st : St), hlexQ P H Ψ D ops k l i c s st = fin → c ≤ l.length ∧ hlexQ P H Ψ D ops k (l.drop c) (i + c) 0 s st = fin
  | l, i, 0, s, st, h => ⟨Nat.zero_le _, h⟩
  | [], i, c + 1, s, st, h => absurd h.symm hf
  | o :: l, i, c + 1, s, st, h => by
    obtain ⟨h1, h2⟩ := hlexQ_skip hf l (i + 1) c s st h
    refine ⟨by simpa using h1, ?_⟩
    have e : i + 1 + c = i + (c + 1) := by omega
    rw [e] at h2
    exact h2
theorem hlexQ_seq {Ψ : H.σ → Nat → List Spec} (hΨ : ∀ s g sp, sp ∈ Ψ s g → CallH P H s sp) {F : Nat → Prop} {M0 : Base} {w0 : World} (hI : ∀ w, Fr F w0 w → Inv.I P w) (hpl : ∀ j v, M0.pin j = some v → False) {n : Nat} {ops : Array Oper} {D : Nat → Option (Nat × (H.σ → St → Bool × Outs H))} {k : H.σ → St → Out ρ} {fin : Out ρ} (hf : fin ≠ .fail) {Q : Exit → Act → World → Prop}
    (hD : ∀ i y, D i = some y → HandQ P H ops i y.1 y.2)
    (hk : ∀ s st a w, ConcH H F M0 w0 s st a w → k s st = fin → Q .normal a w) :
    ∀ (m : Nat) (l : List Oper), l.length ≤ m → ∀ (i : Nat) (s : H.σ) (st : St) (a : Act) (w : World), (∀ j, l[j]? = ops[i + j]?) → ConcH H F M0 w0 s st a w → hlexQ P H Ψ D ops k l i 0 s st = fin → wpOpsIn (fen none) n P ops Q (List.range' i l.length) a w := by
  intro m
  induction m with
  | zero =>
    intro l hm i s st a w hl hc h
    obtain rfl : l = [] := List.eq_nil_of_length_eq_zero (by omega)
    exact hk s st a w hc h
  | succ m ih =>
    intro l hm i s st a w hl hc h
    cases l with
    | nil => exact hk s st a w hc h
    | cons o l =>
      have hm' : l.length ≤ m := by simpa using hm
      have hl' : ∀ j, l[j]? = ops[i + 1 + j]? := fun j => by have := hl (j + 1); simpa [Nat.add_assoc, Nat.add_comm 1 j] using this
      have hi : ops[i]? = some o := by simpa using (hl 0).symm
      unfold hlexQ at h
      cases hy : D i with
      | none =>
        rw [hy] at h
        dsimp only at h
        simp only [List.length_cons, List.range'_succ]
        rw [wpOpsIn_cons]
        rcases vop_ok hf h with ⟨g, wr, hd, hk'⟩ | ⟨g, p, hp, _, _, hpn⟩
        · exact decQ_wp (hΨ s) hI hc hi hd fun a' w' hc' => ih l hm' (i + 1) s _ a' w' hl' hc' hk'
        · exact absurd hp.symm hf
      | some y =>
        rw [hy] at h
        dsimp only at h
        cases hcd : (y.2 s st).1 with
        | false => rw [hcd] at h; exact absurd h.symm hf
        | true =>
        rw [hcd] at h
        obtain ⟨⟨z0, hz0⟩, hall⟩ := outsOf_ok hf (show outsOf _ _ = fin from h)
        have hlen := (hlexQ_skip hf l (i + 1) y.1 z0.1 z0.2 (hall z0 hz0)).1
        have e : List.range' i (o :: l).length = List.range' i (y.1 + 1) ++ List.range' (i + 1 + y.1) (l.drop y.1).length := by
          have e1 : (o :: l).length = (y.1 + 1) + (l.drop y.1).length := by rw [List.length_cons, List.length_drop]; omega
          have e2 : i + 1 + y.1 = i + 1 * (y.1 + 1) := by omega
          rw [e1, e2, List.range'_append]
        rw [e]
        refine hD i y hy F M0 w0 n hI hpl Q _ s st a w hc hcd fun z hz a' w' hc' => ih _ (by rw [List.length_drop]; omega) _ z.1 z.2 a' w' (fun j => ?_) hc' (hlexQ_skip hf l (i + 1) y.1 z.1 z.2 (hall z hz)).2
        rw [List.getElem?_drop, hl']
        congr 1
        omega
noncomputable def regQ (P : Program) (H : Hole) (Ψ : H.σ → Nat → List Spec) (hints : List (Nat × List Nat)) (D : Nat → Option (Nat × (H.σ → St → Bool × Outs H))) (id : Nat) (ops : Array Oper) {ρ : Type} (k : X → H.σ → St → Out ρ) (s : H.σ) (st : St) : Out ρ :=
  hlexQ P H Ψ D ops (fun s st => k .normal s st) ops.toList 0 0 s (frz P hints id (st.map dropS))
theorem regQ_ok {Ψ : H.σ → Nat → List Spec} (hΨ : ∀ s g sp, sp ∈ Ψ s g → CallH P H s sp) (hints : List (Nat × List Nat)) {D : Nat → Option (Nat × (H.σ → St → Bool × Outs H))} {id : Nat} {ops : Array Oper} (hD : ∀ i y, D i = some y → HandQ P H ops i y.1 y.2) :
    EOKH P H (.region id ops false) (fun {ρ} k s st => regQ P H Ψ hints D id ops k s st) := by
  intro ρ fin hf hr F M0 w0 n hI hpl k Q hQ s st a w hc h
  obtain ⟨N0, hpn, hcl, hback⟩ := hc.lift
  have hc := hback _ _ _ (hcl.frz (P := P) (hints := hints) (id := id) fun j v hj => (hpl j v (hpn j v hj)).elim)
  refine wpIn_region ?_
  have := hlexQ_seq (F := F) (M0 := M0) (w0 := w0) (n := n) (ops := ops) hΨ hI hpl hf (Q := Q) hD (fun s st a w hc h => hQ .normal s st a w hc h) _ ops.toList (Nat.le_refl _) 0 s _ a w (fun j => by simp) hc h
  rw [List.range_eq_range']
  simpa using this
def baseH (B : Nat → Prop) (M : Mut) (w : World) : Base := { mu := fun b o => M b o ∧ b < w.heap.size ∧ ¬ B b, ms := M, ws := w, pin := fun _ => none, dm := fun D => ¬ (D < w.heap.size ∧ ¬ B D) }
theorem startH {M : Mut} {w : World} {vs : Array Value} {t : Ty} {x : t.den} {n : Nat} {s : H.σ} (h : RepT M w t vs.toList x) (hlt : ∀ b o, M b o → b < w.heap.size) (hs : H.I s M w) (hh : ∀ b, H.hb s w b → ∀ o, M b o) :
    ConcH H (fun k => k < w.heap.size ∧ ¬ H.hb s w k) (baseH (H.hb s w) M w) w s (st0 n t x) { tmps := vs ++ Array.replicate (n - vs.size) undef, defers := [] } w := by
  have hg := start (n := n) h hlt
  refine ⟨Fr.refl _ _, M, hs, ⟨trivial, hg.size, fun b hb => hb.1, fun b o h => h.2, fun b o h => h.1, hg.lt, fun b o hF hm => ⟨hm, hF⟩, hg.slot, hg.one, fun i k b ho hF => hg.new i k b ho hF.1, stable_refl _ _, fun j v hj => (by cases hj), fun D hD => hD⟩,
    fun b hb => ⟨fun hF => hF.2 hb, hh b hb, fun i k ho => hg.new i k b ho (H.lt s M w b hs hb)⟩⟩
theorem calls_hole (hm : P.follows .mixedOrders = true) (hΦ : ∀ g sp, sp ∈ Φ g → Contract P sp) {fnn : Nat} {fn : Func} {c : Code} (hfn : P.funcs[fnn]? = some fn) (hb : fn.body = some c) {T : List (List Nat × HdH H)} (hT : AllQ P H c T) {hints : List (Nat × List Nat)} {N : Nat}
    {arg res : Ty} {multi own : Bool} {s s' : H.σ} {x : arg.den} {r : res.den} {M : Mut} {w : World} {vs : Array Value} (hI : ∀ w', Fr (fun k => k < w.heap.size ∧ ¬ H.hb s w k) w w' → Inv.I P w') (hs : H.I s M w) (hvs : RepT M w arg vs.toList x) (hlt : ∀ b o, M b o → b < w.heap.size) (hh : ∀ b, H.hb s w b → ∀ o, M b o)
    (h : vfnQ P H Φ hints N T fn multi own arg res s x = .ret (s', r)) :
    Calls P fnn vs w fun e w' => ∃ v, e = .returned v ∧ Fr (fun k => k < w.heap.size ∧ ¬ H.hb s w k) w w' ∧ (∀ b, H.hb s' w' b → H.hb s w b ∨ w.heap.size ≤ b) ∧
      ∃ M', H.I s' M' w' ∧ (∀ b o, M b o → H.hb s w b ∨ M' b o) ∧ (∀ b o, M' b o → M b o ∨ (w.heap.size ≤ b ∧ b < w'.heap.size)) ∧ (∀ b, H.hb s' w' b → ∀ o, M' b o) ∧ SlotOK M' w' [] ⟨#[], []⟩ v (mkRes multi own res r) ∧
        ∀ b, ownS (mkRes multi own res r) = true → ownB v = some b → w.heap.size ≤ b ∨ H.hb s w b := by
  have hst := startH (n := fn.ntmps) hvs hlt hs hh
  unfold vfnQ bodyOf at h
  rw [hb] at h
  refine callsIn_wide.1 (callsIn_of_wp_marks (n := 0) hfn hb trivial (vhq_ok hΦ hm hints N (by simp) (by simp) c T hT _ _ _ _ hI (fun j v hj => by cases hj) _ _ ?_ s _ _ _ hst h))
  intro e s2 st a w' hc hk
  have key : (match vres P fn.results.toList multi own res st with | .ret r => Out.ret (s2, r) | _ => .fail) = .ret (s', r) → LeavesInM Fence.wide 0 P fn a.tmps (fun e w' => ∃ v, e = .returned v ∧ Fr (fun k => k < w.heap.size ∧ ¬ H.hb s w k) w w' ∧ (∀ b, H.hb s' w' b → H.hb s w b ∨ w.heap.size ≤ b) ∧
      ∃ M', H.I s' M' w' ∧ (∀ b o, M b o → H.hb s w b ∨ M' b o) ∧ (∀ b o, M' b o → M b o ∨ (w.heap.size ≤ b ∧ b < w'.heap.size)) ∧ (∀ b, H.hb s' w' b → ∀ o, M' b o) ∧ SlotOK M' w' [] ⟨#[], []⟩ v (mkRes multi own res r) ∧
        ∀ b, ownS (mkRes multi own res r) = true → ownB v = some b → w.heap.size ≤ b ∨ H.hb s w b) a.defers .returning w' := by
    intro hk
    split at hk
    rotate_left
    · cases hk
    rename_i r2 hv
    cases hk
    obtain ⟨hfr, M', hG⟩ := hc
    refine leave (M0 := apartB (baseH (H.hb s w) M w) (H.hb s' w') M' w') (F := fun b => (b < w.heap.size ∧ ¬ H.hb s w b) ∨ H.hb s' w' b) (w0 := w') (st := st) (by simp) (fun M2 w2 hg2 hf2 => ?_) (fun D hD hF => hF.elim hD.1 hD.2) a.defers M' w' hG.focus (Fr.refl _ _)
    obtain ⟨r', h1, v, h2, h3, h4⟩ := vres_ok (fn := fn) hg2 (by simp) hv
    cases h1
    have hG2 := hG.unfocus hf2 hg2
    refine ⟨v, h2, v, rfl, hfr.trans (fr_left hf2), fun b hb => ?_, M2, hG2.1, fun b o hM => ?_, fun b o hM => ?_, fun b hb => (hG2.2.2 b hb).2.1, h3, fun b h5 h6 => ?_⟩
    · rcases Nat.lt_or_ge b w.heap.size with h5 | h5
      · by_cases h6 : H.hb s w b
        · exact .inl h6
        · exact absurd ⟨h5, h6⟩ (hG2.2.2 b hb).1
      · exact .inr h5
    · by_cases h6 : H.hb s w b
      · exact .inl h6
      · exact .inr (hG2.2.1.up b o ⟨hM, hlt b o hM, h6⟩)
    · rcases Nat.lt_or_ge b w.heap.size with h5 | h5
      · by_cases h6 : H.hb s w b
        · exact .inl (hh b h6 o)
        · exact .inl (hG2.2.1.down b o ⟨h5, h6⟩ hM).1
      · exact .inr ⟨h5, hG2.2.1.lt b o hM⟩
    · have h7 := h4 b h5 h6
      rcases Nat.lt_or_ge b w.heap.size with h8 | h8
      · by_cases h9 : H.hb s w b
        · exact .inr h9
        · exact absurd (.inl ⟨h8, h9⟩) h7
      · exact .inl h8
  cases e with
  | normal => exact key hk
  | ret => exact key hk
  | exit i => cases hk
theorem contract_hole (hm : P.follows .mixedOrders = true) {l : List Spec} (hl : ∀ sp ∈ l, Contract P sp) {fnn : Nat} {arg res : Ty} {multi own : Bool} {f : arg.den → Out res.den} {fn : Func} {c : Code}
    (hfn : P.funcs[fnn]? = some fn) (hb : fn.body = some c) {T : List (List Nat × HdH H)} (hT : AllQ P H c T) (hints : List (Nat × List Nat)) {s : H.σ} (h0 : ∀ w b, ¬ H.hb s w b) (hI0 : ∀ M w, H.I s M w) (hp : ∀ x p, f x ≠ .pan p)
    (h : ∀ x r, f x = .ret r → ∃ n s', vfnQ P H (phi l) hints n T fn multi own arg res s x = .ret (s', r)) : Contract P ⟨fnn, .call, arg, res, multi, own, f⟩ := by
  intro x M w vs hIw hvs hlt
  cases hx : f x with
  | fail => simp only [hx]
  | pan p => exact absurd hx (hp x p)
  | ret r =>
    simp only [hx]
    obtain ⟨n, s', hv⟩ := h x r hx
    refine (calls_hole hm (phi_ok hl) hfn hb hT (fun w' hw' => Inv.below _ _ hIw (Fr.toBelow ⟨hw'.os, hw'.tape, hw'.output, hw'.size, fun k hk => hw'.block k ⟨hk, h0 w k⟩⟩)) (hI0 M w) hvs hlt (fun b hB => absurd hB (h0 w b)) hv).mono ?_
    rintro e w' ⟨v, rfl, h1, h3, M', h2, h4, h5, h6, h7, h8⟩
    exact ⟨v, rfl, Fr.toBelow ⟨h1.os, h1.tape, h1.output, h1.size, fun k hk => h1.block k ⟨hk, h0 w k⟩⟩, M', fun b o hM => (h4 b o hM).resolve_left (h0 w b), h5, h7, fun b h9 h10 => (h8 b h9 h10).resolve_right (h0 w b)⟩
end
end Go.V
namespace Go.V
open Go.RowKit (Below)
def Zf (F : Nat → Prop) (M0 : Base) : Prop := ∀ b, b < M0.ws.heap.size → F b
section
variable {P : Program} [Inv P] {H : Hole} {Φ : Nat → List Spec} {ρ : Type}
def EOKZ (P : Program) [Inv P] (H : Hole) (c : Code) (E : {ρ : Type} → (X → H.σ → St → Out ρ) → H.σ → St → Out ρ) : Prop :=
  ∀ {ρ : Type} {fin : Out ρ} (_ : fin ≠ .fail) (_ : ∀ p, fin ≠ .pan p) (F : Nat → Prop) (M0 : Base) (w0 : World) (n : Nat), Zf F M0 → (∀ w, Fr F w0 w → Inv.I P w) → (∀ j v, M0.pin j = some v → False) →
    ∀ (k : X → H.σ → St → Out ρ) (Q : Exit → Act → World → Prop),
      (∀ x s st a w, ConcH H F M0 w0 s st a w → k x s st = fin → Q x.exit' a w) → ∀ s st a w, ConcH H F M0 w0 s st a w → E k s st = fin → c.wpIn (fen none) n P Q a w
def AllZ (P : Program) [Inv P] (H : Hole) (c : Code) (T : List (List Nat × HdH H)) : Prop := ∀ e ∈ T, ∃ c', codeAt e.1 c = some c' ∧ EOKZ P H c' (fun {ρ} k s st => e.2.run (ρ := ρ) k s st)
theorem allZ_nil {c : Code} : AllZ P H c [] := fun _ h => absurd h List.not_mem_nil
theorem allZ_cons {c c' : Code} {p : List Nat} {E : HdH H} {T : List (List Nat × HdH H)} (h1 : codeAt p c = some c') (h2 : EOKZ P H c' (fun {ρ} k s st => E.run (ρ := ρ) k s st)) (hT : AllZ P H c T) : AllZ P H c ((p, E) :: T) := by
  intro e he
  rcases List.mem_cons.1 he with rfl | he
  · exact ⟨c', h1, h2⟩
  · exact hT e he
theorem AllZ.seq {a b : Code} {T : List (List Nat × HdH H)} (h : AllZ P H (.seq a b) T) : AllZ P H a (subL 0 T) ∧ AllZ P H b (subL 1 T) :=
  ⟨fun e he => h _ (mem_subL he), fun e he => h _ (mem_subL he)⟩
theorem AllZ.cond {c : Operand} {a b : Code} {T : List (List Nat × HdH H)} (h : AllZ P H (.cond c a b) T) : AllZ P H a (subL 0 T) ∧ AllZ P H b (subL 1 T) :=
  ⟨fun e he => h _ (mem_subL he), fun e he => h _ (mem_subL he)⟩
theorem allZ_consH {c c' : Code} {p : List Nat} {E : HdH H} {T : List (List Nat × HdH H)} (h1 : codeAt p c = some c') (h2 : EOKH P H c' (fun {ρ} k s st => E.run (ρ := ρ) k s st)) (hT : AllZ P H c T) : AllZ P H c ((p, E) :: T) :=
  allZ_cons h1 (fun hf hr F M0 w0 n _ hI hpl k Q hQ s st a w hc he => h2 hf hr F M0 w0 n hI hpl k Q hQ s st a w hc he) hT
def HOKZ (P : Program) [Inv P] (H : Hole) (Φ : Nat → List Spec) (hints : List (Nat × List Nat)) (N : Nat) {ρ : Type} (fin : Out ρ) (c : Code) : Prop :=
  ∀ (T : List (List Nat × HdH H)), AllZ P H c T → ∀ (F : Nat → Prop) (M0 : Base) (w0 : World) (n : Nat), Zf F M0 → (∀ w, Fr F w0 w → Inv.I P w) → (∀ j v, M0.pin j = some v → False) →
    ∀ (k : X → H.σ → St → Out ρ) (Q : Exit → Act → World → Prop),
      (∀ x s st a w, ConcH H F M0 w0 s st a w → k x s st = fin → Q x.exit' a w) → ∀ s st a w, ConcH H F M0 w0 s st a w → vhq P H Φ hints N c T k s st = fin → c.wpIn (fen none) n P Q a w
theorem pickZ_ok (hΦ : ∀ g sp, sp ∈ Φ g → Contract P sp) (hm : P.follows .mixedOrders = true) (hints : List (Nat × List Nat)) (N : Nat) {fin : Out ρ} (hf : fin ≠ .fail) (hr : ∀ p, fin ≠ .pan p) {c : Code} {T : List (List Nat × HdH H)} (hT : AllZ P H c T) {F : Nat → Prop} {M0 : Base} {w0 : World} {n : Nat} (hz : Zf F M0)
    (hI : ∀ w, Fr F w0 w → Inv.I P w) (hpl : ∀ j v, M0.pin j = some v → False) {k : X → H.σ → St → Out ρ} {Q : Exit → Act → World → Prop}
    (hQ : ∀ x s st a w, ConcH H F M0 w0 s st a w → k x s st = fin → Q x.exit' a w) {s : H.σ} {st : St} {a : Act} {w : World} (hc : ConcH H F M0 w0 s st a w) {new : Out ρ} (h : pickQ T (vexec P Φ hints N c none (fun x st => k x s st) st) (fun E => E.run k s st) new = fin)
    (hnew : new = fin → c.wpIn (fen none) n P Q a w) : c.wpIn (fen none) n P Q a w := by
  unfold pickQ at h
  split at h
  · obtain ⟨N0, hpn, hcl, hback⟩ := hc.lift
    exact code_ok hΦ hm hints N hf c _ _ w none none n (fun _ => rfl) (hc.inv hI) (fun j v hj => (hpl j v (hpn j v hj)).elim) (fun x st => k x s st) Q (fun _ p q hp => absurd hp (hr p)) (fun x st a w hc h => hQ x s st a w (hback _ _ _ hc) h) st a w hcl h
  · split at h
    · rename_i E hE
      obtain ⟨c', e1, e2⟩ := hT _ (mem_hereL hE)
      cases e1
      exact e2 hf hr F M0 w0 n hz hI hpl k Q hQ s st a w hc h
    · exact hnew h
theorem vhz_ok (hΦ : ∀ g sp, sp ∈ Φ g → Contract P sp) (hm : P.follows .mixedOrders = true) (hints : List (Nat × List Nat)) (N : Nat) {fin : Out ρ} (hf : fin ≠ .fail) (hr : ∀ p, fin ≠ .pan p) : ∀ (c : Code), HOKZ P H Φ hints N fin c := by
  intro c
  induction c with
  | seq x y ihx ihy =>
    intro T hT F M0 w0 n hz hI hpl k Q hQ s st a w hc h
    unfold vhq at h
    refine pickZ_ok hΦ hm hints N hf hr hT hz hI hpl hQ hc h fun h => ?_
    refine wpIn_seq (ihx _ hT.seq.1 F M0 w0 n hz hI hpl _ _ ?_ s st a w hc h)
    intro e s st a w hc h
    cases e with
    | normal => exact ihy _ hT.seq.2 F M0 w0 n hz hI hpl k Q hQ s st a w hc h
    | exit i => exact hQ (.exit i) s st a w hc h
    | ret => exact hQ .ret s st a w hc h
  | cond c x y ihx ihy =>
    intro T hT F M0 w0 n hz hI hpl k Q hQ s st a w hc h
    unfold vhq at h
    refine pickZ_ok hΦ hm hints N hf hr hT hz hI hpl hQ hc h fun h => ?_
    split at h
    rotate_left
    · exact absurd h.symm hf
    rename_i v e
    obtain ⟨hb, M, hg⟩ := id hc
    refine wpIn_cond (slot_bool (e ▸ opnd_ok hg.2.1 c)) ?_
    cases v with
    | true =>
      dsimp only at h
      rw [setC_self e] at h
      exact ihx _ hT.cond.1 F M0 w0 n hz hI hpl k Q hQ s st a w hc h
    | false =>
      dsimp only at h
      rw [setC_self e] at h
      exact ihy _ hT.cond.2 F M0 w0 n hz hI hpl k Q hQ s st a w hc h
  | block id b ih =>
    intro T hT F M0 w0 n hz hI hpl k Q hQ s st a w hc h
    unfold vhq at h
    refine pickZ_ok hΦ hm hints N hf hr hT hz hI hpl hQ hc h fun h => ?_
    refine wpIn_block (ih _ (fun e he => hT _ (mem_subL he)) F M0 w0 n hz hI hpl _ _ ?_ s st a w hc h)
    intro x s st a w hc h
    cases x with
    | normal => exact hQ .normal s st a w hc h
    | ret => exact hQ .ret s st a w hc h
    | exit i =>
      show if i = id then _ else _
      dsimp only at h
      split
      · rename_i e; rw [if_pos e] at h; exact hQ .normal s st a w hc h
      · rename_i e; rw [if_neg e] at h; exact hQ (.exit i) s st a w hc h
  | loop b ih =>
    intro T hT F M0 w0 n hz hI hpl k Q hQ s st a w hc h
    unfold vhq at h
    refine pickZ_ok hΦ hm hints N hf hr hT hz hI hpl hQ hc h fun h => ?_
    have key : ∀ m s st a w, ConcH H F M0 w0 s st a w → iterQ (fun k' s st => vhq P H Φ hints N b (subL 0 T) k' s st) (Go.V.maskOf hints b) k m s st = fin → Code.roundsIn (fen none) n P b Q m a w := by
      intro m
      induction m with
      | zero => intro s st a w _ h; exact absurd h.symm hf
      | succ m ihm =>
        intro s st a w hc h
        refine ih _ (fun e he => hT _ (mem_subL he)) F M0 w0 n hz hI hpl _ _ ?_ s st a w hc h
        intro x s st a w hc h
        cases x with
        | normal => exact ihm s _ a w (hc.maskOf hpl) h
        | exit i => exact hQ (.exit i) s st a w hc h
        | ret => exact hQ .ret s st a w hc h
    exact wpIn_loop_rounds N (key N s _ a w (hc.maskOf hpl) h)
  | scope b ih =>
    intro T hT F M0 w0 n hz hI hpl k Q hQ s st a w hc h
    unfold vhq at h
    refine pickZ_ok hΦ hm hints N hf hr hT hz hI hpl hQ hc h fun h => ?_
    refine wpIn_wide.2 (wp_scope_straight ((wpIn_wide (n := n)).1 (ih _ (fun e he => hT _ (mem_subL he)) F M0 w0 n hz hI hpl k _ ?_ s st a w hc h)))
    intro x s st a w hc h
    have := hQ x s st a w hc h
    cases x <;> exact this
  | _ =>
    intro T hT F M0 w0 n hz hI hpl k Q hQ s st a w hc h
    unfold vhq at h
    exact pickZ_ok hΦ hm hints N hf hr hT hz hI hpl hQ hc h fun h => absurd h.symm hf
theorem calls_holeZ (hm : P.follows .mixedOrders = true) (hΦ : ∀ g sp, sp ∈ Φ g → Contract P sp) {fnn : Nat} {fn : Func} {c : Code} (hfn : P.funcs[fnn]? = some fn) (hb : fn.body = some c) {T : List (List Nat × HdH H)} (hT : AllZ P H c T) {hints : List (Nat × List Nat)} {N : Nat}
    {arg res : Ty} {multi own : Bool} {s s' : H.σ} {x : arg.den} {r : res.den} {M : Mut} {w : World} {vs : Array Value} (hI : ∀ w', Fr (fun k => k < w.heap.size ∧ ¬ H.hb s w k) w w' → Inv.I P w') (h0 : ∀ b, ¬ H.hb s w b) (hs : H.I s M w) (hvs : RepT M w arg vs.toList x) (hlt : ∀ b o, M b o → b < w.heap.size) (hh : ∀ b, H.hb s w b → ∀ o, M b o)
    (h : vfnQ P H Φ hints N T fn multi own arg res s x = .ret (s', r)) :
    Calls P fnn vs w fun e w' => ∃ v, e = .returned v ∧ Fr (fun k => k < w.heap.size ∧ ¬ H.hb s w k) w w' ∧ (∀ b, H.hb s' w' b → H.hb s w b ∨ w.heap.size ≤ b) ∧
      ∃ M', H.I s' M' w' ∧ (∀ b o, M b o → H.hb s w b ∨ M' b o) ∧ (∀ b o, M' b o → M b o ∨ (w.heap.size ≤ b ∧ b < w'.heap.size)) ∧ (∀ b, H.hb s' w' b → ∀ o, M' b o) ∧ SlotOK M' w' [] ⟨#[], []⟩ v (mkRes multi own res r) ∧
        ∀ b, ownS (mkRes multi own res r) = true → ownB v = some b → w.heap.size ≤ b ∨ H.hb s w b := by
  have hst := startH (n := fn.ntmps) hvs hlt hs hh
  unfold vfnQ bodyOf at h
  rw [hb] at h
  refine callsIn_wide.1 (callsIn_of_wp_marks (n := 0) hfn hb trivial (vhz_ok hΦ hm hints N (by simp) (by simp) c T hT _ _ _ _ (fun b hb => ⟨hb, h0 b⟩) hI (fun j v hj => by cases hj) _ _ ?_ s _ _ _ hst h))
  intro e s2 st a w' hc hk
  have key : (match vres P fn.results.toList multi own res st with | .ret r => Out.ret (s2, r) | _ => .fail) = .ret (s', r) → LeavesInM Fence.wide 0 P fn a.tmps (fun e w' => ∃ v, e = .returned v ∧ Fr (fun k => k < w.heap.size ∧ ¬ H.hb s w k) w w' ∧ (∀ b, H.hb s' w' b → H.hb s w b ∨ w.heap.size ≤ b) ∧
      ∃ M', H.I s' M' w' ∧ (∀ b o, M b o → H.hb s w b ∨ M' b o) ∧ (∀ b o, M' b o → M b o ∨ (w.heap.size ≤ b ∧ b < w'.heap.size)) ∧ (∀ b, H.hb s' w' b → ∀ o, M' b o) ∧ SlotOK M' w' [] ⟨#[], []⟩ v (mkRes multi own res r) ∧
        ∀ b, ownS (mkRes multi own res r) = true → ownB v = some b → w.heap.size ≤ b ∨ H.hb s w b) a.defers .returning w' := by
    intro hk
    split at hk
    rotate_left
    · cases hk
    rename_i r2 hv
    cases hk
    obtain ⟨hfr, M', hG⟩ := hc
    refine leave (M0 := apartB (baseH (H.hb s w) M w) (H.hb s' w') M' w') (F := fun b => (b < w.heap.size ∧ ¬ H.hb s w b) ∨ H.hb s' w' b) (w0 := w') (st := st) (by simp) (fun M2 w2 hg2 hf2 => ?_) (fun D hD hF => hF.elim hD.1 hD.2) a.defers M' w' hG.focus (Fr.refl _ _)
    obtain ⟨r', h1, v, h2, h3, h4⟩ := vres_ok (fn := fn) hg2 (by simp) hv
    cases h1
    have hG2 := hG.unfocus hf2 hg2
    refine ⟨v, h2, v, rfl, hfr.trans (fr_left hf2), fun b hb => ?_, M2, hG2.1, fun b o hM => ?_, fun b o hM => ?_, fun b hb => (hG2.2.2 b hb).2.1, h3, fun b h5 h6 => ?_⟩
    · rcases Nat.lt_or_ge b w.heap.size with h5 | h5
      · by_cases h6 : H.hb s w b
        · exact .inl h6
        · exact absurd ⟨h5, h6⟩ (hG2.2.2 b hb).1
      · exact .inr h5
    · by_cases h6 : H.hb s w b
      · exact .inl h6
      · exact .inr (hG2.2.1.up b o ⟨hM, hlt b o hM, h6⟩)
    · rcases Nat.lt_or_ge b w.heap.size with h5 | h5
      · by_cases h6 : H.hb s w b
        · exact .inl (hh b h6 o)
        · exact .inl (hG2.2.1.down b o ⟨h5, h6⟩ hM).1
      · exact .inr ⟨h5, hG2.2.1.lt b o hM⟩
    · have h7 := h4 b h5 h6
      rcases Nat.lt_or_ge b w.heap.size with h8 | h8
      · by_cases h9 : H.hb s w b
        · exact .inr h9
        · exact absurd (.inl ⟨h8, h9⟩) h7
      · exact .inl h8
  cases e with
  | normal => exact key hk
  | ret => exact key hk
  | exit i => cases hk
theorem contract_holeZ (hm : P.follows .mixedOrders = true) {l : List Spec} (hl : ∀ sp ∈ l, Contract P sp) {fnn : Nat} {arg res : Ty} {multi own : Bool} {f : arg.den → Out res.den} {fn : Func} {c : Code}
    (hfn : P.funcs[fnn]? = some fn) (hb : fn.body = some c) {T : List (List Nat × HdH H)} (hT : AllZ P H c T) (hints : List (Nat × List Nat)) {s : H.σ} (h0 : ∀ w b, ¬ H.hb s w b) (hI0 : ∀ M w, H.I s M w) (hp : ∀ x p, f x ≠ .pan p)
    (h : ∀ x r, f x = .ret r → ∃ n s', vfnQ P H (phi l) hints n T fn multi own arg res s x = .ret (s', r)) : Contract P ⟨fnn, .call, arg, res, multi, own, f⟩ := by
  intro x M w vs hIw hvs hlt
  cases hx : f x with
  | fail => simp only [hx]
  | pan p => exact absurd hx (hp x p)
  | ret r =>
    simp only [hx]
    obtain ⟨n, s', hv⟩ := h x r hx
    refine (calls_holeZ hm (phi_ok hl) hfn hb hT (fun w' hw' => Inv.below _ _ hIw (Fr.toBelow ⟨hw'.os, hw'.tape, hw'.output, hw'.size, fun k hk => hw'.block k ⟨hk, h0 w k⟩⟩)) (h0 w) (hI0 M w) hvs hlt (fun b hB => absurd hB (h0 w b)) hv).mono ?_
    rintro e w' ⟨v, rfl, h1, h3, M', h2, h4, h5, h6, h7, h8⟩
    exact ⟨v, rfl, Fr.toBelow ⟨h1.os, h1.tape, h1.output, h1.size, fun k hk => h1.block k ⟨hk, h0 w k⟩⟩, M', fun b o hM => (h4 b o hM).resolve_left (h0 w b), h5, h7, fun b h9 h10 => (h8 b h9 h10).resolve_right (h0 w b)⟩
theorem contract_dropZ' {H : Hole} (s0 : H.σ) (h0 : ∀ w b, ¬ H.hb s0 w b) (hI0 : ∀ M w, H.I s0 M w) (hm : P.follows .mixedOrders = true) {l : List Spec} (hl : ∀ sp ∈ l, Contract P sp) {fnn : Nat} {arg res : Ty} {multi own : Bool} {f : arg.den → Out res.den} {F : arg.den → Out (H.σ × res.den)} {fn : Func} {c : Code}
    (hfn : P.funcs[fnn]? = some fn) (hb : fn.body = some c) {T : List (List Nat × HdH H)} (hT : AllZ P H c T) (hints : List (Nat × List Nat)) (n : Nat)
    (h : ∀ x, vfnQ P H (phi l) hints n T fn multi own arg res s0 x = F x) (hp : ∀ x p, f x ≠ .pan p) (hF : ∀ x r, f x = .ret r → ∃ s, F x = .ret (s, r)) : Contract P ⟨fnn, .call, arg, res, multi, own, f⟩ :=
  contract_holeZ (s := s0) hm hl hfn hb hT hints h0 hI0 hp fun x r hr => by
    obtain ⟨s', hs⟩ := hF x r hr
    exact ⟨n, s', (h x).trans hs⟩
end
end Go.V
namespace Go.V
open Go.RowKit (Below)
def lastOK (ops : Array Oper) (m : Nat) : Bool := (ops.size == m) || ((ops.size == m + 1) && (List.range m).all fun j => waitsT ops j m)
noncomputable def regAnyQ (P : Program) (H : Hole) (Ψ : H.σ → Nat → List Spec) (hints : List (Nat × List Nat)) (m : Nat) (last : Option (H.σ → St → Bool × Outs H)) (id : Nat) (ops : Array Oper) {ρ : Type} (k : X → H.σ → St → Out ρ) (s : H.σ) (st : St) : Out ρ :=
  vdraw P (Ψ s) ops (fun acc pp st' => bif early ops && apartAll ops 0 acc.reverse && lastOK ops m && (ops.size == (bif last.isSome then m + 1 else m)) then (match pp with
    | none => (match last with
      | none => k .normal s st'
      | some g => bif (g s st').1 then outsOf (fun z => k .normal z.1 z.2) (g s st').2 else .fail)
    | some _ => .fail) else .fail) (ops.toList.take m) 0 [] 0 none (frz P hints id (st.map dropS))
section
variable {P : Program} [Inv P] {H : Hole} {ρ : Type}
theorem anyQ_ok {s : H.σ} {Φ : Nat → List Spec} (hΦ : ∀ g sp, sp ∈ Φ g → CallH P H s sp) {F : Nat → Prop} {M0 : Base} {w0 : World} (hI : ∀ w, Fr F w0 w → Inv.I P w) {n : Nat} {ops : Array Oper} {p : Value} {rs : List Rec} {m : Nat} {st : St} (hlen : rs.length = m) (hm : lastOK ops m = true)
    (hch : Chain P Φ ops (Tr ops) p rs (ops.toList.take m) rs 0 st) (hap : Apart (Tr ops) (rs.map Rec.pr)) (he : early ops = true) {Q : Exit → Act → World → Prop} (hout : ∀ r ∈ rs, r.out = false)
    (hend : ∀ fuel (L : Array Bool) a w, L.size = ops.size → L.toList.countP (!·) ≤ fuel → (∀ j, j < m → L.getD j false = true) → (ops.size = m + 1 → L.getD m false = false) → ConcH H F M0 w0 s (stL (fun _ => true) (rs.map Rec.pr) 0 st) a w → wpAnyIn (fen none) n P .any ops Q fuel L a w) :
    ∀ (fuel : Nat) (L : Array Bool) (a : Act) (w : World), L.size = ops.size → Closed ops L → L.toList.countP (!·) ≤ fuel → (ops.size = m + 1 → L.getD m false = false) → ConcH H F M0 w0 s (stL (fun i => L.getD i false) (rs.map Rec.pr) 0 st) a w → wpAnyIn (fen none) n P .any ops Q fuel L a w := by
  have hlen' : (rs.map Rec.pr).length = m := by simpa using hlen
  have hsz : ops.size = m ∨ (ops.size = m + 1 ∧ ∀ j, j < m → Tr ops j m) := by
    unfold lastOK at hm
    rcases Bool.or_eq_true_iff.1 hm with h | h
    · exact .inl (by simpa using h)
    · rw [Bool.and_eq_true] at h
      refine .inr ⟨by simpa using h.1, fun j hj => ?_⟩
      have := List.all_eq_true.1 h.2 j (List.mem_range.2 hj)
      exact masks_ok ops.toList [] (fun k o hk => by simpa using hk) (fun j i h => by simp at h) m j this
  have hle : m ≤ ops.size := by rcases hsz with h | ⟨h, _⟩ <;> omega
  intro fuel
  induction fuel with
  | zero =>
    intro L a w hs hcl hct hlast hc
    refine hend 0 L a w hs hct (fun j hj => ?_) hlast ?_
    · cases hL : L.getD j false with
      | true => rfl
      | false =>
        exfalso
        have hlt : j < L.size := by omega
        have h3 : L[j] = false := by simpa [hlt] using hL
        have : 0 < L.toList.countP (!·) := List.countP_pos_iff.2 ⟨L[j], by simp, by rw [h3]; rfl⟩
        omega
    · have : stL (fun _ => true) (rs.map Rec.pr) 0 st = stL (fun i => L.getD i false) (rs.map Rec.pr) 0 st := by
        apply stL_ext (by rw [length_stL, length_stL])
        intro t ht
        rw [length_stL] at ht
        rw [get_stL _ _ _ _ ht, get_stL _ _ _ _ ht]
        refine lastL_congr _ _ _ fun j r hj _ => ?_
        have hlt : j < (rs.map Rec.pr).length := (List.getElem?_eq_some_iff.1 hj).1
        have hltL : j < L.size := by omega
        rw [Nat.zero_add]
        cases hL : L.getD j false with
        | true => rfl
        | false =>
          exfalso
          have h3 : L[j] = false := by simpa [hltL] using hL
          have : 0 < L.toList.countP (!·) := List.countP_pos_iff.2 ⟨L[j], by simp, by rw [h3]; rfl⟩
          omega
      rw [this]; exact hc
  | succ fuel ih =>
    intro L a w hs hcl hct hlast hc
    by_cases hall : ∀ j, j < m → L.getD j false = true
    · refine hend (fuel + 1) L a w hs hct hall hlast ?_
      have : stL (fun _ => true) (rs.map Rec.pr) 0 st = stL (fun i => L.getD i false) (rs.map Rec.pr) 0 st := by
        apply stL_ext (by rw [length_stL, length_stL])
        intro t ht
        rw [length_stL] at ht
        rw [get_stL _ _ _ _ ht, get_stL _ _ _ _ ht]
        refine lastL_congr _ _ _ fun j r hj _ => ?_
        have hlt : j < (rs.map Rec.pr).length := (List.getElem?_eq_some_iff.1 hj).1
        rw [Nat.zero_add, hall j (by omega)]
      rw [this]; exact hc
    obtain ⟨j0, hj0, hjf⟩ : ∃ j, j < m ∧ L.getD j false = false := by
      apply Classical.byContradiction
      intro hn
      apply hall
      intro j hj
      cases hL : L.getD j false with
      | true => rfl
      | false => exact absurd ⟨j, hj, hL⟩ hn
    refine ⟨fun hr => ?_, fun i hi => ?_⟩
    · have := ready_all he hs hr (j0 + 1) j0 (by omega) (by omega)
      rw [hjf] at this; cases this
    obtain ⟨h1, h2, h3⟩ := ready_mem hi
    have him : i < m := by
      rcases hsz with h | ⟨h, hw⟩
      · omega
      · rcases Nat.lt_or_ge i m with h' | h'
        · exact h'
        · have e : i = m := by omega
          subst e
          have := ready_tr hcl h3 (hw j0 hj0)
          rw [hjf] at this; cases this
    have hltL : i < L.size := by omega
    have hfalse : L[i] = false := by simpa [hltL] using h2
    have hnot : L.getD i false = false := by simpa [hltL] using hfalse
    obtain ⟨o, ho⟩ : ∃ o, ops[i]? = some o := ⟨ops[i], by simp [h1]⟩
    obtain ⟨r0, hr0⟩ : ∃ r, rs[i]? = some r := ⟨rs[i], by simp [hlen, him]⟩
    have hr : (rs.map Rec.pr)[i]? = some r0.pr := by simp [hr0]
    have hot : (ops.toList.take m)[i]? = some o := by rw [List.getElem?_take, if_pos him]; simpa using ho
    have hdec := chain_dec (ops.toList.take m) rs st 0 i o r0 hch hot hr0
    rw [Nat.zero_add] at hdec
    have hsame : ∀ t, r0.g.testBit t = true → get (stL (fun i => L.getD i false) (rs.map Rec.pr) 0 st) t = get (stL (fun j => decide (j < i)) (rs.map Rec.pr) 0 st) t := fun t ht => by
      rcases Nat.lt_or_ge t st.length with hlt | hge
      · rw [get_stL _ _ _ _ hlt, get_stL _ _ _ _ hlt]
        refine lastL_congr _ _ _ fun j r' hj hb => ?_
        rw [Nat.zero_add]
        rcases Nat.lt_trichotomy j i with hji | rfl | hji
        · rcases hap j i r' r0.pr hji hj hr with hw | ⟨hw, _⟩
          · rw [ready_tr hcl h3 hw]; simp [hji]
          · have := and_zero_bit hw hb
            have ht' : (r0.pr.1).testBit t = true := ht
            rw [Nat.testBit_or, ht'] at this
            simp at this
        · rw [hnot]; simp
        · have hd : decide (j < i) = false := by simp; omega
          rw [hd]
          rcases hap i j r0.pr r' hji hr hj with hw | ⟨_, hw⟩
          · cases hL : L.getD j false with
            | false => rfl
            | true => exact absurd (closed_tr hcl hw hL) (by rw [hnot]; simp)
          · have := and_zero_bit hw ht
            rw [hb] at this
            simp at this
      · rw [get_oob (by rw [length_stL]; exact hge), get_oob (by rw [length_stL]; exact hge)]
    have hout0 : r0.out = false := hout _ (List.mem_of_getElem? hr0)
    have hdec' : Dec P Φ ops o (stL (fun i => L.getD i false) (rs.map Rec.pr) 0 st) r0.g r0.wr := (hdec.1 hout0).same hsame
    obtain ⟨r, hrr⟩ : ∃ r, r = r0.pr := ⟨_, rfl⟩
    rw [← hrr] at hr
    have hdec' : Dec P Φ ops o (stL (fun i => L.getD i false) (rs.map Rec.pr) 0 st) r.1 r.2 := by rw [hrr]; exact hdec'
    refine decQ_wp hΦ hI hc ho hdec' fun a' w' hc' => ih _ a' w' (by simp [hs]) ?_ ?_ ?_ ?_
    · intro x y hw hy
      rw [getD_set hltL] at hy ⊢
      rcases Bool.or_eq_true_iff.1 hy with hy | hy
      · rw [hcl x y hw hy]; rfl
      · simp only [beq_iff_eq] at hy
        subst hy
        rw [h3 x hw]; rfl
    · have h4 := count_set L.toList i (by simp [hltL, hfalse])
      have : (L.setIfInBounds i true).toList = L.toList.set i true := by simp
      rw [this]
      omega
    · intro hms
      rw [getD_set hltL, hlast hms]
      have : (m == i) = false := by simp; omega
      rw [this]; rfl
    · have : stL (fun i_1 => (L.setIfInBounds i true).getD i_1 false) (rs.map Rec.pr) 0 st = app r.2 (stL (fun i => L.getD i false) (rs.map Rec.pr) 0 st) := by
        apply stL_ext (by rw [length_stL, length_app, length_stL])
        intro t ht
        rw [length_stL] at ht
        rw [get_stL _ _ _ _ ht, get_app _ _ _ (by rw [length_stL]; exact ht), get_stL _ _ _ _ ht]
        have hfn : (fun j => (L.setIfInBounds i true).getD j false) = fun j => L.getD j false || j == i := funext fun j => getD_set hltL
        rw [hfn]
        cases hb : (wmask r.2).testBit t with
        | true =>
          have := lastL_add (L := fun j => L.getD j false) hb (lastL (fun i => L.getD i false) t (rs.map Rec.pr) 0 (get st t)) (rs.map Rec.pr) i 0 (get st t) hr fun j r' hj hj' hb' => by
            rw [Nat.zero_add]
            rcases hap i j r r' hj hr hj' with hw | ⟨hw, _⟩
            · cases hL : L.getD j false with
              | false => rfl
              | true => exact absurd (closed_tr hcl hw hL) (by rw [hnot]; simp)
            · have := and_zero_bit hw hb
              rw [Nat.testBit_or, hb'] at this
              simp at this
          rw [Nat.zero_add] at this
          exact this
        | false =>
          rw [last_skip hb]
          refine lastL_congr _ _ _ fun j r' hj hb' => ?_
          rw [Nat.zero_add]
          by_cases e : j = i
          · subst e
            rw [hr] at hj
            cases hj
            rw [hb] at hb'
            cases hb'
          · have : (j == i) = false := by simpa using e
            rw [this, Bool.or_false]
      rw [this]
      exact hc'
theorem any_done {ops : Array Oper} {Q : Exit → Act → World → Prop} {n : Nat} {L : Array Bool} (h : ∀ j, j < ops.size → L.getD j false = true) {a : Act} {w : World} (hQ : Q .normal a w) : ∀ fuel, wpAnyIn (fen none) n P .any ops Q fuel L a w := by
  have hr : Region.ready .any ops L = [] := by
    apply List.eq_nil_iff_forall_not_mem.2
    intro i hi
    obtain ⟨h1, h2, _⟩ := ready_mem hi
    have h3 := h i h1
    rw [Array.getD_eq_getD_getElem?] at h2 h3
    cases e : L[i]? <;> rw [e] at h2 h3 <;> simp at h2 h3
    rw [h3] at h2; cases h2
  intro fuel
  cases fuel with
  | zero => exact ⟨hr, hQ⟩
  | succ fuel => exact ⟨fun _ => hQ, fun i hi => by rw [hr] at hi; cases hi⟩
theorem regAnyQ_ok (hmx : P.follows .mixedOrders = true) {Ψ : H.σ → Nat → List Spec} (hΨ : ∀ s g sp, sp ∈ Ψ s g → CallH P H s sp) (hints : List (Nat × List Nat)) {m : Nat} {last : Option (H.σ → St → Bool × Outs H)} {id : Nat} {ops : Array Oper} (hD : ∀ g, last = some g → HandOp P H ops m g) :
    EOKH P H (.region id ops true) (fun {ρ} k s st => regAnyQ P H Ψ hints m last id ops k s st) := by
  intro ρ fin hf hr F M0 w0 n hI hpl k Q hQ s st a w hc h
  obtain ⟨N0, hpn, hcl, hback⟩ := hc.lift
  have hc := hback _ _ _ (hcl.frz (P := P) (hints := hints) (id := id) fun j v hj => (hpl j v (hpn j v hj)).elim)
  have h : regAnyQ P H Ψ hints m last id ops k s st = fin := h
  unfold regAnyQ at h
  generalize hst1 : frz P hints id (st.map dropS) = st1 at h hc
  obtain ⟨rs, pp', h1, h2, _, h4, h5, h6⟩ := vdraw_chain hf (ops.toList.take m) [] 0 none st1 (fun j hj => by simp at hj) (fun _ => rfl) h
  simp only [List.nil_append, List.reverse_reverse, List.length_nil] at h2 h6
  cases hb : (early ops && apartAll ops 0 (rs.map Rec.mask) && lastOK ops m && (ops.size == (bif last.isSome then m + 1 else m))) with
  | false => rw [hb] at h2; exact absurd h2.symm hf
  | true =>
  rw [hb] at h2
  simp only [Bool.and_eq_true] at hb
  obtain ⟨⟨⟨hb1, hb2⟩, hb3⟩, hb4⟩ := hb
  have hle : m ≤ ops.size := by
    unfold lastOK at hb3
    rcases Bool.or_eq_true_iff.1 hb3 with h | h
    · have : ops.size = m := by simpa using h
      omega
    · rw [Bool.and_eq_true] at h
      have : ops.size = m + 1 := by simpa using h.1
      omega
  have hsz : rs.length = m := by rw [h1, List.length_take]; simp; omega
  have hmask : rs.map Rec.mask = (rs.map Rec.pr).map fun r => (r.1, wmask r.2) := by rw [List.map_map]; rfl
  cases hpp : pp' with
  | some p => rw [hpp] at h2; exact absurd h2.symm hf
  | none =>
  have hall := h4 hpp
  rw [hpp] at h2
  dsimp only [cond_true] at h2
  refine wpIn_region_any hmx (anyQ_ok (st := st1) (M0 := M0) (w0 := w0) (hΨ s) hI hsz hb3 (h6 .nilIface (.inl hpp)) (apart_of (by rw [← hmask]; exact hb2)) hb1 hall ?_ _ _ _ _ (by simp) ?_ ?_ ?_ ?_)
  · intro fuel L a w hs hct hj hlast hc'
    rw [stL_true, fold_pr] at hc'
    cases hl : last with
    | none =>
      rw [hl] at h2 hb4
      have hms : ops.size = m := by simpa using hb4
      exact any_done (fun j hjs => hj j (by omega)) (hQ .normal s _ a w hc' h2) fuel
    | some g =>
      rw [hl] at h2 hb4
      have hms : ops.size = m + 1 := by simpa using hb4
      have hL := hlast hms
      dsimp only at h2
      cases hcd : (g s (rs.foldl (fun st r => app r.wr st) st1)).1 with
      | false => rw [hcd] at h2; exact absurd h2.symm hf
      | true =>
      rw [hcd] at h2
      obtain ⟨_, hallz⟩ := outsOf_ok hf (show outsOf _ _ = fin from h2)
      have hltL : m < L.size := by omega
      have hnr : Region.ready .any ops L ≠ [] := fun hr => by
        have := ready_all hb1 hs hr (m + 1) m (by omega) (by omega)
        rw [hL] at this; cases this
      cases fuel with
      | zero =>
        exfalso
        have h3 : L[m] = false := by simpa [hltL] using hL
        have : 0 < L.toList.countP (!·) := List.countP_pos_iff.2 ⟨L[m], by simp, by rw [h3]; rfl⟩
        omega
      | succ fuel =>
        refine ⟨fun hr => absurd hr hnr, fun i hi => ?_⟩
        obtain ⟨g1, g2, g3⟩ := ready_mem hi
        have e : i = m := by
          rcases Nat.lt_or_ge i m with h' | h'
          · have h3 := hj i h'
            rw [Array.getD_eq_getD_getElem?] at g2 h3
            cases e : L[i]? <;> rw [e] at g2 h3 <;> simp at g2 h3
            rw [h3] at g2; cases g2
          · omega
        subst e
        refine hD g hl F M0 w0 n hI hpl Q _ s _ a w hc' hcd fun z hz a' w' hc'' => any_done (fun j hjs => ?_) (hQ .normal z.1 z.2 a' w' hc'' (hallz z hz)) fuel
        rw [getD_set hltL]
        rcases Nat.lt_or_ge j i with h' | h'
        · rw [hj j h']; rfl
        · have : j = i := by omega
          subst this; simp
  · intro i j _ hj
    simp only [Array.getD_eq_getD_getElem?, Array.getElem?_replicate] at hj
    split at hj <;> simp at hj
  · exact Nat.le_trans List.countP_le_length (by simp)
  · intro _
    simp only [Array.getD_eq_getD_getElem?, Array.getElem?_replicate]
    split <;> rfl
  · have : stL (fun i => (Array.replicate ops.size false).getD i false) (rs.map Rec.pr) 0 st1 = st1 := by
      apply stL_ext (length_stL ..)
      intro t ht
      rw [length_stL] at ht
      rw [get_stL _ _ _ _ ht]
      refine lastL_none _ _ _ fun j _ _ _ => ?_
      simp only [Array.getD_eq_getD_getElem?, Array.getElem?_replicate]
      split <;> rfl
    rw [this]
    obtain ⟨N1, _, hcl1, hback1⟩ := hc.lift
    obtain ⟨hb, M, hg⟩ := hcl1
    exact hback1 _ _ _ ⟨hb.drew, M, hg.drew⟩
end
end Go.V
namespace Go.V
open Go.Proofs
open Go.RowKit (Below)
def H0 : Hole where
  σ := Unit
  hb _ _ _ := False
  I _ _ _ := True
  keep _ _ _ _ _ _ _ _ := trivial
  same _ _ _ _ _ _ _ h := h
  lt _ _ _ _ _ h := h.elim
  nd _ _ _ _ _ _ h := h.elim
def dropG {σ α : Type} : Out (σ × α) → Out α
  | .ret (_, r) => .ret r
  | _ => .fail
theorem dropG_ret {σ α : Type} {o : Out (σ × α)} {r : α} (h : dropG o = .ret r) : ∃ s, o = .ret (s, r) := by
  unfold dropG at h
  split at h
  · cases h; exact ⟨_, rfl⟩
  · cases h
theorem dropG_pan {σ α : Type} {o : Out (σ × α)} {p : Value} (h : dropG o = .pan p) : False := by
  unfold dropG at h
  split at h <;> cases h
theorem contract_drop {H : Hole} (s0 : H.σ) (h0 : ∀ w b, ¬ H.hb s0 w b) (hI0 : ∀ M w, H.I s0 M w) {l : List Spec} (hl : ∀ sp ∈ l, Contract Tryz.prog sp) {fnn : Nat} {arg res : Ty} {multi own : Bool} {F : arg.den → Out (H.σ × res.den)} {fn : Func} {c : Code}
    (hfn : Tryz.prog.funcs[fnn]? = some fn) (hb : fn.body = some c) {T : List (List Nat × HdH H)} (hT : AllQ Tryz.prog H c T) (hints : List (Nat × List Nat)) (n : Nat)
    (h : ∀ x, vfnQ Tryz.prog H (phi l) hints n T fn multi own arg res s0 x = F x) : Contract Tryz.prog ⟨fnn, .call, arg, res, multi, own, fun x => dropG (F x)⟩ := by
  refine contract_hole (s := s0) mixed hl hfn hb hT hints h0 hI0 (fun x p hp => dropG_pan hp) fun x r hr => ?_
  obtain ⟨s', hs⟩ := dropG_ret hr
  exact ⟨n, s', (h x).trans hs⟩
theorem contract_dropZ {H : Hole} (s0 : H.σ) (h0 : ∀ w b, ¬ H.hb s0 w b) (hI0 : ∀ M w, H.I s0 M w) {l : List Spec} (hl : ∀ sp ∈ l, Contract Tryz.prog sp) {fnn : Nat} {arg res : Ty} {multi own : Bool} {F : arg.den → Out (H.σ × res.den)} {fn : Func} {c : Code}
    (hfn : Tryz.prog.funcs[fnn]? = some fn) (hb : fn.body = some c) {T : List (List Nat × HdH H)} (hT : AllZ Tryz.prog H c T) (hints : List (Nat × List Nat)) (n : Nat)
    (h : ∀ x, vfnQ Tryz.prog H (phi l) hints n T fn multi own arg res s0 x = F x) : Contract Tryz.prog ⟨fnn, .call, arg, res, multi, own, fun x => dropG (F x)⟩ :=
  contract_dropZ' s0 h0 hI0 mixed hl hfn hb hT hints n h (fun x p hp => dropG_pan hp) fun x r hr => dropG_ret hr
noncomputable def handQ {H : Hole} (g : Hand) (s : H.σ) (st : St) : Bool × Outs H := match g st with | some st' => (true, .some [(s, st')]) | none => (false, .some [])
theorem handQ_ok {P : Program} [Inv P] {H : Hole} {ops : Array Oper} {i c : Nat} {g : Hand} (h : HandOK P ops i c g) : HandQ P H ops i c (handQ g) := by
  intro F M0 w0 n hI hpl Q rest s st a w hc h1 hK
  unfold handQ at h1 hK
  cases hg : g st with
  | none => rw [hg] at h1; cases h1
  | some st' =>
    rw [hg] at hK
    obtain ⟨N0, hpn, hcl, hback⟩ := hc.lift
    exact h _ N0 w n (hc.inv hI) (fun j v hj => hpl j v (hpn j v hj)) Q rest st a w st' hcl hg fun a' w' hc' => hK (s, st') (List.mem_singleton.2 rfl) a' w' (hback _ _ _ hc')
end Go.V
namespace Go.V
open Go.Proofs
open Go.RowKit (Below)
theorem GoodH.world {H : Hole} {F : Nat → Prop} {M0 : Base} {s s' : H.σ} {M : Mut} {st : St} {a : Act} {w : World} (h : GoodH H F M0 s M st a w) {w' : World} (hf : Fr (fun k => k < w.heap.size ∧ ¬ H.hb s w k) w w')
    (hs : ∀ w1 : World, w1.heap.size = w.heap.size → Fr (fun k => k < w.heap.size ∧ ¬ H.hb s w k) w w1 → (∀ k, H.hb s w k → w1.heap[k]? = w'.heap[k]?) → H.I s' M w1 ∧ ∀ b, H.hb s' w1 b → H.hb s w b) : Fr F w w' ∧ GoodH H F M0 s' M st a w' := by
  obtain ⟨w1, h1, hsz, hbel, hf1⟩ := h.turn hf hs
  have hf' : Fr (fun b => F b ∨ H.hb s' w1 b) w1 w' := Fr.below hbel h1.focus.room
  exact ⟨hf1.trans (fr_left hf'), h1.unfocus hf' (h1.focus.below hbel)⟩
theorem setRow_same {w : World} {b : Nat} {C D : Array Value} {E : TypeId} {fz : Nat × Nat} (h : w.heap[b]? = some (.cells C E fz)) : (w.setRow b D).heap[b]? = some (.cells D E fz) := by
  unfold World.setRow
  simp [Array.getElem?_modify, h]
theorem setRow_other {w : World} {b k : Nat} {D : Array Value} (h : k ≠ b) : (w.setRow b D).heap[k]? = w.heap[k]? := by
  unfold World.setRow
  simp [Array.getElem?_modify, Ne.symm h]
theorem setRow_size {w : World} {b : Nat} {D : Array Value} : (w.setRow b D).heap.size = w.heap.size := by
  unfold World.setRow; simp
section
variable {a : Act} {w : World} {o : Oper}
theorem ex_index {T E : TypeId} {e : Ty} (hu : Tryz.prog.underlying T = some (.slice E)) (hE : tyOf Tryz.prog 9 E = some e) (hes : e.size = 1) {p q : Nat} (ho : o.op = .indexAddr T (.tmp p) (.tmp q)) {R off n cap : Nat} {i : Int} (h0 : tm a p = .slice (some ⟨R, off, none⟩) n cap) (h1 : tm a q = .int .i64 i) (hi0 : 0 ≤ i) (hi : i < n) :
    (execOp a.eval o).run Tryz.prog w = .ok (.value (.pointer (some ⟨R, off + i.toNat, none⟩))) w := by
  have e0 : a.eval (.tmp p) = .slice (some ⟨R, off, none⟩) n cap := h0
  have e1 : a.eval (.tmp q) = .int .i64 i := h1
  simp [execOp, ho, e0, e1, Instr.indexAt, asIntOf, run_underlying hu, run_sizeOf hE, add_lit, hi0, hi, hes]
theorem ex_loadAt {T p : Nat} {t : Ty} (hty : tyOf Tryz.prog 9 T = some t) (hag : t.agg = false) (hts : t.size = 1) (ho : o.op = .load T (.tmp p)) {b j : Nat} {v : Value} {cur : Array Value} {E : Nat} (ht : tm a p = .pointer (some ⟨b, j, none⟩)) (hh : w.heap[b]? = some (.cells cur E (0, 0))) (hv : cur[j]? = some v) :
    (execOp a.eval o).run Tryz.prog w = .ok (.value v) w := by
  have hlt := (Array.getElem?_eq_some_iff.1 hv).1
  have hd : cur.toList.drop j = [v] ++ cur.toList.drop (j + 1) := by
    have hl : j < cur.toList.length := by simpa using hlt
    have hv2 : cur.toList[j] = v := (Array.getElem?_eq_some_iff.1 hv).2
    rw [List.drop_eq_getElem_cons hl, hv2]
    rfl
  have := load_cells (P := Tryz.prog) (n := 9) (T := T) (t := t) (w := w) (b := b) (off := j) (us' := cur.toList.drop (j + 1)) (c1 := [v]) hty hh hd hts.symm
  have e1 : a.eval (.tmp p) = .pointer (some ⟨b, j, none⟩) := ht
  have e2 : toVal t [v] = v := by unfold toVal; rw [hag]; rfl
  rw [e2] at this
  simp [execOp, ho, e1, Instr.loadAt, Instr.sureAddr, this]
theorem ex_storeAt {T p q : Nat} {t : Ty} (hty : tyOf Tryz.prog 9 T = some t) (hts : t.size = 1) (ho : o.op = .store T (.tmp p) (.tmp q)) {b j : Nat} {u : Value} {cur : Array Value} {E : Nat} (ht : tm a p = .pointer (some ⟨b, j, none⟩)) (hq : tm a q = u) (hu : u.oneCell' = true) (huc : u.cells = #[u]) (hh : w.heap[b]? = some (.cells cur E (0, 0))) (hj : j < cur.size) :
    (execOp a.eval o).run Tryz.prog w = .ok .skip (w.setRow b (cur.setIfInBounds j u)) := by
  have e1 : a.eval (.tmp p) = .pointer (some ⟨b, j, none⟩) := ht
  have e3 : a.eval (.tmp q) = u := hq
  have hrun := run_storeVar (P := Tryz.prog) (n := 9) (T := T) (t := t) hty (o := j) (v := u) (by rw [huc, hts]; rfl) hh (by rw [hts]; omega) (by rw [huc]; intro x hx; simp at hx; rw [hx]; exact hu)
  have hrow : (cur.toList.take j ++ #[u].toList ++ cur.toList.drop (j + 1)).toArray = cur.setIfInBounds j u := by
    apply Array.ext'
    simp only [Array.toList_setIfInBounds]
    rw [List.set_eq_take_append_cons_drop, if_pos (by simpa using hj)]
    simp
  rw [huc, hts, hrow] at hrun
  simp only [execOp, ho, e1, e3, Instr.storeAt, Instr.sureAddr, Sem.run_bind, Sem.run_pure, Result.andThen_ok]
  rw [hrun]
  rfl
end
end Go.V
namespace Go.V
open Go.Proofs
open Go.RowKit (Below)
noncomputable def isV (a b : Value) : Bool := open Classical in decide (a = b)
theorem isV_eq {a b : Value} (h : isV a b = true) : a = b := by
  unfold isV at h
  exact @of_decide_eq_true _ (Classical.propDecidable _) h
theorem isV_refl (a : Value) : isV a a = true := by unfold isV; exact @decide_eq_true _ (Classical.propDecidable _) rfl
abbrev NW : Type := Value × List Int
def NowAt (s : NW) (w : World) : Prop := ∃ b cap cells T, (s.1 = .slice (some ⟨b, 0, none⟩) s.2.length cap ∧ s.2.length ≤ cap) ∧ w.heap[b]? = some (.cells cells T (0, 0)) ∧ ∀ (i : Nat) (x : Int), s.2[i]? = some x → cells[i]? = some (.int .i64 x)
theorem now_keep {s : NW} {w w' : World} (h : NowAt s w) (hs : ∀ b, ownB s.1 = some b → w'.heap[b]? = w.heap[b]?) : NowAt s w' := by
  obtain ⟨b, cap, cells, T, ⟨h1, h0⟩, h2, h3⟩ := h
  exact ⟨b, cap, cells, T, ⟨h1, h0⟩, (hs b (by rw [h1]; rfl)).trans h2, h3⟩
def HNow : Hole where
  σ := NW
  hb s _ b := ownB s.1 = some b
  I s _ w := NowAt s w
  keep s M w M' w' h _ hs := now_keep h hs
  same s M w w' _ _ b h := h
  lt s M w b h hb := by
    obtain ⟨b', cap, cells, T, ⟨h1, _⟩, h2, h3⟩ := h
    rw [h1] at hb
    cases hb
    exact (Array.getElem?_eq_some_iff.1 h2).1
  nd s M w b c h hb e := by
    obtain ⟨b', cap, cells, T, ⟨h1, _⟩, h2, h3⟩ := h
    rw [h1] at hb
    cases hb
    rw [h2] at e
    cases e
theorem now_rep {s : NW} {w : World} (h : NowAt s w) {M : Mut} (hM : ∀ b o, ownB s.1 = some b → ¬ M b o) : RepV M w (.list (.int .i64)) s.1 s.2 := by
  obtain ⟨b, cap, cells, T, ⟨h1, h0⟩, h2, h3⟩ := h
  refine ⟨[s.1], rfl, ?_⟩
  rw [h1]
  refine ⟨some ⟨b, 0, none⟩, cap, rfl, h0, fun i hi => ⟨b, 0, [.int .i64 s.2[i]], rfl, rfl, fun j hj => ?_, rfl⟩⟩
  have hi : i < List.length (α := Int) s.2 := hi
  have hj : j = 0 := by simpa using hj
  subst hj
  refine ⟨?_, hM b _ (by rw [h1]; rfl)⟩
  show w.cell? ⟨b, 0 + i * 1 + 0, none⟩ = some (.int .i64 (List.get (α := Int) s.2 ⟨i, hi⟩))
  rw [Nat.mul_one, Nat.add_zero]
  have := h3 i s.2[i] (List.getElem?_eq_getElem hi)
  rw [cell_of_row w b (0 + i) cells T (0, 0) h2, Nat.zero_add]
  exact this
theorem raw_call {fn : Nat} {t res : Ty} {f : List Int × t.den → Out res.den} (hc : Contract Tryz.prog ⟨fn, .call, .prod (.list (.int .i64)) t, res, false, false, f⟩) (hflat : ∀ M M' w v r, RepV M w res v r → RepV M' w res v r)
    (ht : ∀ M M' w vs x, RepT M w t vs x → RepT M' w t vs x) (s : NW) : MContract Tryz.prog HNow s ⟨fn, .call, .prod .raw t, res, false, false, fun x => bif isV x.1 s.1 then f (s.2, x.2) else .fail⟩ := by
  intro x M w vs r hI hH hvs hlt hM hf
  have hf : (bif isV x.1 s.1 then f (s.2, x.2) else .fail) = .ret r := hf
  cases hv : isV x.1 s.1 with
  | false => rw [hv] at hf; cases hf
  | true =>
  rw [hv] at hf
  have hv := isV_eq hv
  obtain ⟨v, rest, e1, ⟨cs, e2, e3⟩, h2⟩ := hvs
  have e4 := e3.1
  subst e4
  have e2 : v = x.1 := e2
  have hrep : RepT (fun b o => M b o ∧ ownB s.1 ≠ some b) w (.prod (.list (.int .i64)) t) vs.toList (s.2, x.2) := ⟨v, rest, e1, by rw [e2, hv]; exact now_rep hH fun b o e h => h.2 e, ht _ _ _ _ _ h2⟩
  unfold Contract at hc
  have hc := hc (s.2, x.2) (fun b o => M b o ∧ ownB s.1 ≠ some b) w vs hI hrep fun b o h => hlt b o h.1
  have hf : f (s.2, x.2) = .ret r := hf
  dsimp only at hc
  erw [hf] at hc
  refine hc.mono ?_
  rintro e w' ⟨v', rfl, hb, M', k1, k2, k3, k4⟩
  have hlb : ∀ b, ownB s.1 = some b → b < w.heap.size := fun b hb' => HNow.lt s M w b hH hb'
  refine ⟨v', rfl, Fr.below hb fun k hk => hk.1, fun w1 hw1 hfr hs => ⟨now_keep hH fun b hb' => (hs b hb').trans (hb.block b (hlb b hb')), fun b h => h⟩, ?_⟩
  exact ⟨M, fun _ _ h => h, fun _ _ h => .inl h, hflat _ _ _ _ _ k3, fun b h => by simp [mkRes, ownS] at h⟩
noncomputable def r113_6 : Array Oper := regAt 6 (bodyOf Tryz.f113)
theorem info113_6 : r113_6.toList.map opInfo = [(some 30, .load 29 (.tmp 3), none), (some 31, .move (.tmp 0), none), (some 32, .move (.tmp 11), none), (some 33, .indexAddr 29 (.tmp 30) (.tmp 31), none), (none, .store 3 (.tmp 33) (.tmp 32), none)] := by kernel_rfl
noncomputable def g113_6 (s : HNow.σ) (st : St) : Bool × Outs HNow := match get st 30 with
  | .d .raw v => (match get st 31 with
    | .d (.int .i64) r => (match get st 32 with
      | .d (.int .i64) n => ((!isBox (get st 33) && st.length == 80) && (isV v s.1 && inb r s.2.length), .some [((s.1, s.2.set r.toNat n), st.set 33 .und)])
      | _ => (false, .some []))
    | _ => (false, .some []))
  | _ => (false, .some [])
theorem store_ok : HandQ Tryz.prog HNow r113_6 3 1 g113_6 := by
  intro F M0 w0 n hI hpl Q rest s st act w hc h1 hK
  obtain ⟨o3, i3, d3, p3, q3⟩ := infoAt info113_6 (i := 3) rfl
  obtain ⟨o4, i4, d4, p4, q4⟩ := infoAt info113_6 (i := 4) rfl
  simp only at d3 p3 q3 d4 p4 q4
  unfold g113_6 at h1 hK
  split at h1
  rotate_left
  · cases h1
  rename_i v e30
  split at h1
  rotate_left
  · cases h1
  rename_i rD e31
  obtain ⟨r, hrr⟩ : ∃ z : Int, z = rD := ⟨_, rfl⟩
  subst hrr
  split at h1
  rotate_left
  · cases h1
  rename_i mD e32
  obtain ⟨m, hmm⟩ : ∃ z : Int, z = mD := ⟨_, rfl⟩
  subst hmm
  simp only [Bool.and_eq_true, Bool.not_eq_true', beq_iff_eq] at h1
  obtain ⟨⟨hnb, hlen⟩, hv, hr⟩ := h1
  rw [e30] at hK
  dsimp only at hK
  rw [e31] at hK
  dsimp only at hK
  rw [e32] at hK
  dsimp only at hK
  have hv := isV_eq hv
  obtain ⟨hfr, M, hG⟩ := hc
  have hg := hG.2.1
  have hsz : act.tmps.size = 80 := hg.size.trans hlen
  have t30 : tm act 30 = s.1 := by
    have sa := hg.slot 30
    rw [e30] at sa
    exact (repV_raw (show RepV M w .raw (tm act 30) v from sa)).trans hv
  have t31 : tm act 31 = .int .i64 r := by
    have sa := hg.slot 31
    rw [e31] at sa
    exact slot_int sa
  have t32 : tm act 32 = .int .i64 m := by
    have sa := hg.slot 32
    rw [e32] at sa
    exact slot_int sa
  obtain ⟨b, cap, cells, T, ⟨h1, h0⟩, h2, h3⟩ := id hG.1
  rw [h1] at t30
  have hr0 : 0 ≤ r ∧ r < (s.2.length : Int) := by unfold inb at hr; simpa using hr
  have hrl : r.toNat < s.2.length := by omega
  have hcs : r.toNat < cells.size := (Array.getElem?_eq_some_iff.1 (h3 _ _ (List.getElem?_eq_getElem hrl))).1
  obtain ⟨N0, hpn, hcl, hback⟩ := ConcH.lift (H := HNow) ⟨hfr, M, hG⟩
  obtain ⟨hbL, ML, hgL⟩ := hcl
  have hc1 : ConcH HNow F M0 w0 s (st.set 33 .und) (act.put (some 33) (.pointer (some ⟨b, 0 + r.toNat, none⟩))) w := hback _ _ _ ⟨hbL, ML, put_und hgL hnb _⟩
  show wpOpsIn (fen none) n Tryz.prog r113_6 Q (3 :: 4 :: rest) act w
  rw [wpOpsIn_cons]
  refine opn_value i3 (wanted_none q3) (fun c h => by rw [p3] at h; cases h) (ex_index (E := 3) (e := .int .i64) (by kernel_rfl) (by kernel_rfl) rfl p3 t30 t31 hr0.1 hr0.2) ?_
  rw [d3, wpOpsIn_cons]
  refine opn_skipped i4 (wanted_none q4) (fun c h => by rw [p4] at h; cases h) (ex_storeAt (t := .int .i64) (by kernel_rfl) rfl p4 (u := .int .i64 m) (tm_put_same (by omega)) (by rw [tm_put_other (by omega), t32]) rfl rfl h2 (by rw [Nat.zero_add]; exact hcs)) ?_
  rw [d4]
  obtain ⟨hfr1, M1, hG1⟩ := hc1
  have hbo : ∀ k, HNow.hb s w k → k = b := fun k hk => by
    have hk : ownB s.1 = some k := hk
    rw [h1] at hk
    cases hk; rfl
  have hfr' : Fr (fun k => k < w.heap.size ∧ ¬ HNow.hb s w k) w (w.setRow b (cells.setIfInBounds (0 + r.toNat) (.int .i64 m))) := ⟨rfl, rfl, rfl, by rw [setRow_size]; exact Nat.le_refl _, fun k hk => setRow_other fun e => hk.2 (by rw [e]; show ownB s.1 = some b; rw [h1]; rfl)⟩
  have hnow : ∀ w1 : World, w1.heap[b]? = some (.cells (cells.setIfInBounds (0 + r.toNat) (.int .i64 m)) T (0, 0)) → NowAt (s.1, s.2.set r.toNat m) w1 := by
    intro w1 hw1
    refine ⟨b, cap, cells.setIfInBounds (0 + r.toNat) (.int .i64 m), T, ⟨(show s.1 = .slice (some ⟨b, 0, none⟩) (s.2.set r.toNat m).length cap by rw [List.length_set]; exact h1), (show (s.2.set r.toNat m).length ≤ cap by rw [List.length_set]; exact h0)⟩, hw1, fun i x hx => ?_⟩
    have hy : (s.2.set r.toNat m)[i]? = some x := hx
    clear hx
    rw [Nat.zero_add, Array.getElem?_setIfInBounds]
    rw [List.getElem?_set] at hy
    by_cases e : r.toNat = i
    · subst e
      rw [if_pos rfl, if_pos hrl] at hy
      cases hy
      rw [if_pos rfl, if_pos hcs]
    · rw [if_neg e] at hy
      rw [if_neg e]
      exact h3 i x hy
  obtain ⟨s', hs'⟩ : ∃ z : HNow.σ, z = (s.1, s.2.set r.toNat m) := ⟨_, rfl⟩
  have hs1 : ∀ w1 : World, w1.heap.size = w.heap.size → Fr (fun k => k < w.heap.size ∧ ¬ HNow.hb s w k) w w1 → (∀ k, HNow.hb s w k → w1.heap[k]? = (w.setRow b (cells.setIfInBounds (0 + r.toNat) (.int .i64 m))).heap[k]?) → HNow.I s' M1 w1 ∧ ∀ k, HNow.hb s' w1 k → HNow.hb s w k := by
    intro w1 _ _ hk
    rw [hs']
    exact ⟨hnow w1 ((hk b (by show ownB s.1 = some b; rw [h1]; rfl)).trans (setRow_same h2)), fun k hk => hk⟩
  obtain ⟨f1, hG'⟩ := hG1.world hfr' hs1
  rw [hs'] at hG'
  exact hK _ (.head _) _ _ ⟨hfr1.trans f1, M1, hG'⟩
end Go.V
namespace Go.V
open Go.Proofs
open Go.RowKit (Below)
noncomputable def r116_5 : Array Oper := regAt 5 (bodyOf Tryz.f116)
theorem info116_5 : (r116_5.toList.map opInfo)[1]? = some (some 15, .binOp .neq 169 (.tmp 14) (.const .nilFunc) 169, none) := by kernel_rfl
def isFn : Value → Option Bool
  | .nilFunc => some false
  | .func _ _ _ => some true
  | _ => none
def g116 (st : St) : Option St := match get st 14 with
  | .d .raw v => (match isFn v with
    | some b => (match isBox (get st 15) || !(st.length == 24) with
      | true => none
      | false => some (st.set 15 (.d .bool b)))
    | none => none)
  | _ => none
theorem und169 : Tryz.prog.underlying 169 = some (.func #[152, 3] #[4] false) := by kernel_rfl
theorem eq_nilF {w : World} {v : Value} {b : Bool} (hv : isFn v = some b) : (Op.equal 169 v .nilFunc).run Tryz.prog w = .ok (!b) w := by
  have he : ∀ d, (Op.equalIn (d + 1) 169 v .nilFunc).run Tryz.prog w = .ok (!b) w := fun d => by
    unfold isFn at hv
    split at hv
    · cases hv; simp [Op.equalIn, run_underlying und169]
    · cases hv; simp [Op.equalIn, run_underlying und169]
    · cases hv
  exact he 9999
theorem ex_neqF {a : Act} {w : World} {o : Oper} (ho : o.op = .binOp .neq 169 (.tmp 14) (.const .nilFunc) 169) {v : Value} (h : tm a 14 = v) {b : Bool} (hv : isFn v = some b) : (execOp a.eval o).run Tryz.prog w = .ok (.value (.bool b)) w := by
  have e1 : a.eval (.tmp 14) = v := h
  have e2 : a.eval (.const .nilFunc) = .nilFunc := rfl
  have he := eq_nilF (w := w) hv
  have e3 : (binOp .neq 169 v .nilFunc).run Tryz.prog w = .ok (.bool b) w := by
    unfold isFn at hv
    split at hv
    · cases hv; simp [binOp, he]
    · cases hv; simp [binOp, he]
    · cases hv
  have e4 : eqGuard .neq 169 (.tmp 14) (.const .nilFunc) v .nilFunc = pure () := by
    unfold isFn at hv
    split at hv
    · rfl
    · rfl
    · cases hv
  simp [execOp, ho, e1, e2, e3, e4]
theorem h116 : HandOK Tryz.prog r116_5 1 0 g116 := by
  intro F M0 w0 m hI hpl Q rest st a w st' hc hg hK
  unfold g116 at hg
  split at hg
  rotate_left
  · cases hg
  rename_i v h14
  split at hg
  rotate_left
  · cases hg
  rename_i b hb
  split at hg
  · cases hg
  rename_i hnb
  simp only [Bool.or_eq_false_iff] at hnb
  obtain ⟨n15, hlen⟩ := hnb
  have hlen : st.length = 24 := by simpa using hlen
  cases hg
  obtain ⟨hfr, M, hg⟩ := hc
  have t14 : tm a 14 = v := by
    have s := hg.slot 14
    rw [h14] at s
    obtain ⟨cs, e, q⟩ := s
    have q' : cs = [v] := q.1
    subst q'
    exact e
  have hsz : a.tmps.size = 24 := hg.size.trans hlen
  obtain ⟨o1, i1, d1, p1, q1⟩ : ∃ o, r116_5[1]? = some o ∧ o.dst = some 15 ∧ o.op = .binOp .neq 169 (.tmp 14) (.const .nilFunc) 169 ∧ o.guard = none := by
    have hx := info116_5
    rw [List.getElem?_map, Array.getElem?_toList] at hx
    cases h : r116_5[1]? with
    | none => rw [h] at hx; cases hx
    | some o => rw [h] at hx; simp only [Option.map_some, Option.some.injEq, opInfo, Prod.mk.injEq] at hx; exact ⟨o, rfl, hx.1, hx.2.1, hx.2.2⟩
  have g15 := hg.fin (dst := some 15) (s := .d .bool b) (v := .bool b) (fun d' hd => by cases hd; exact n15) rfl ⟨[.bool b], rfl, rfl⟩
  show wpOpsIn (fen none) m Tryz.prog r116_5 Q (1 :: rest) a w
  rw [wpOpsIn_cons]
  refine opn_value i1 (wanted_none q1) (fun c h => by rw [p1] at h; cases h) (ex_neqF p1 t14 hb) ?_
  rw [d1]
  exact hK _ _ ⟨hfr, M, g15⟩
end Go.V
namespace Go.V
open Go.Proofs
noncomputable def specs116 : List Spec := [sp128, sp129, sp130, sp134]
def hints116 : List (Nat × List Nat) := [(3, [1, 2, 9, 10])]
noncomputable def specsQ116 (s : Unit) : List Spec := [sp128, sp129, sp130, sp134]
noncomputable def D116_5 : Nat → Option (Nat × (Unit → St → Bool × Outs H0)) := fun i => match i with | 1 => some (0, handQ (H := H0) g116) | _ => none
theorem D116_5_ok : ∀ i y, D116_5 i = some y → HandQ Tryz.prog H0 r116_5 i y.1 y.2 := by
  intro i y h
  unfold D116_5 at h
  split at h
  · cases h; exact handQ_ok h116
  · cases h
noncomputable def T116 : List (List Nat × HdH H0) := [([1, 1, 0, 1, 0, 0, 1, 1, 0, 0, 1, 0], ⟨fun {ρ} k s st => regQ Tryz.prog H0 (fun s => phi (specsQ116 s)) hints116 D116_5 5 r116_5 k s st⟩)]
theorem allQ116 (h : ∀ s, ∀ sp ∈ specsQ116 s, CallH Tryz.prog H0 s sp) : AllQ Tryz.prog H0 (bodyOf Tryz.f116) (T116) := (allQ_cons (c' := .region 5 r116_5 false) (by kernel_rfl) (regQ_ok (fun s g sp hs => h s sp (List.mem_filter.1 hs).1) hints116 D116_5_ok) allQ_nil)
noncomputable def L116_0 (N : Nat) (n_L116_0 : Nat) (x : ((Int × (Int × (Bool × Unit))) × (Int × Unit))) (t10_1 : Int) : Out (Unit × Int) :=
  vloopQ Tryz.prog H0 (phi specs116) hints116 N (T116) Tryz.f116 false false (.int .i64) [1, 1, 0, 1, 0] n_L116_0 (()) [.und, .d (.int .i64) x.2.1, .box [.d (.int .i64) x.1.1, .d (.int .i64) x.1.2.1, .d .bool x.1.2.2.1], .und, .und, .und, .und, .und, .und, .d (.prod .raw (.prod .raw (.prod .raw (.prod .raw (.prod .raw .unit))))) (Value.nilFunc, ((Value.func (.func 128) #[] #[]), ((Value.func (.func 129) #[] #[]), ((Value.func (.func 130) #[] #[]), ((Value.func (.func 134) #[] #[]), ()))))), .d (.int .i64) t10_1, .und, .und, .und, .und, .und, .und, .und, .und, .und, .und, .und, .und, .und]
noncomputable def F116 (N : Nat) (x : ((Int × (Int × (Bool × Unit))) × (Int × Unit))) : Out (Unit × Int) :=
  L116_0 N N x (0 : Int)
theorem e116 (N : Nat) (x : ((Int × (Int × (Bool × Unit))) × (Int × Unit))) : vfnQ Tryz.prog H0 (phi specs116) hints116 N (T116) Tryz.f116 false false (.prod (.prod (.int .i64) (.prod (.int .i64) (.prod .bool .unit))) (.prod (.int .i64) .unit)) (.int .i64) (()) x = F116 N x := by
  kernel_rfl
noncomputable def f116 (x : ((Int × (Int × (Bool × Unit))) × (Int × Unit))) : Out Int := dropG (F116 fuel x)
noncomputable def sp116 : Spec := ⟨116, .call, (.prod (.prod (.int .i64) (.prod (.int .i64) (.prod .bool .unit))) (.prod (.int .i64) .unit)), (.int .i64), false, false, f116⟩
theorem c116 : Contract Tryz.prog sp116 := contract_drop (H := H0) () (fun w b h => h) (fun M w => trivial) (l := specs116) (fun sp hs => (by simp only [specs116, List.mem_cons, List.not_mem_nil, or_false] at hs; rcases hs with rfl | rfl | rfl | rfl <;> first | exact c128 | exact c129 | exact c130 | exact c134)) Tryz.func116 rfl (allQ116 fun s sp hs => .inl (by simp only [specsQ116, List.mem_cons, List.not_mem_nil, or_false] at hs; rcases hs with rfl | rfl | rfl | rfl <;> first | exact c128 | exact c129 | exact c130 | exact c134)) hints116 fuel (e116 fuel)
end Go.V
namespace Go.V
open Go.Proofs
abbrev LLI : Type := List (List Int)
abbrev SHT : Type := LLI × List Int × Unit
abbrev LI : Ty := .list (.int .i64)
abbrev SHTY : Ty := .prod (.list LI) (.prod LI .unit)
noncomputable def f115r (s : NW) (x : Value × Int × Unit) : Out (Int × Int × Bool × Unit) := bif isV x.1 s.1 then f115 (s.2, x.2) else .fail
noncomputable def sp115r (s : NW) : Spec := ⟨115, .call, .prod .raw (.prod (.int .i64) .unit), (.prod (.int .i64) (.prod (.int .i64) (.prod .bool .unit))), false, false, f115r s⟩
theorem c115r (s : NW) : MContract Tryz.prog HNow s (sp115r s) := raw_call (t := .prod (.int .i64) .unit) (res := .prod (.int .i64) (.prod (.int .i64) (.prod .bool .unit))) (f := f115) c115 (fun M M' w v r h => by
  obtain ⟨cs, e, c1, c2, e1, h1, c3, c4, e2, h2, c5, c6, e3, h3, h4⟩ := h
  exact ⟨cs, e, c1, c2, e1, h1, c3, c4, e2, h2, c5, c6, e3, h3, h4⟩) (fun M M' w vs x h => h) s
def way113 : List Nat := [1, 0, 1, 1, 0, 1, 0, 0, 1, 1, 0, 0]
noncomputable def at113 (l : List Nat) : Code := match codeAt (way113 ++ l) (bodyOf Tryz.f113) with | some c => c | none => .skip
noncomputable def C113 : Code := .seq (at113 [0]) (.seq (at113 [1, 0]) (.seq (at113 [1, 1, 0]) (at113 [1, 1, 1, 0])))
noncomputable def same {α : Type} (a b : α) : Bool := open Classical in decide (a = b)
theorem same_eq {α : Type} {a b : α} (h : same a b = true) : a = b := by
  unfold same at h
  exact @of_decide_eq_true _ (Classical.propDecidable _) h
theorem same_refl {α : Type} (a : α) : same a a = true := by unfold same; exact @decide_eq_true _ (Classical.propDecidable _) rfl
noncomputable def kp (row : Int) (left : List Int) (yv v : Value) (lists : LLI) (sh : SHT) (pf : Value) (cands : List Int) (len i : Int) (row' : Int) (left' : List Int) (yv' v' : Value) (lists' : LLI) (sh' : SHT) (pf' : Value) (cands' : List Int) (len' i' : Int) (v'' : Value) : Bool :=
  same row' row && (same left' left && (same yv' yv && (same v' v && (same lists' lists && (same sh' sh && (same pf' pf && (same cands' cands && (same len' len && (same i' i && same v'' v)))))))))
noncomputable def kpS (row : Int) (left : List Int) (yv v : Value) (lists : LLI) (sh : SHT) (pf : Value) (cands : List Int) (len i : Int) (s : NW) (st : St) : Bool :=
  bif st.length == 80 then match get st 0, get st 1, get st 2, get st 3, get st 4, get st 5, get st 6, get st 24, get st 25, get st 26 with
  | .d (.int .i64) row', .d (.list (.int .i64)) left', .ref .raw yv', .ref .raw v', .ref (.list (.list (.int .i64))) lists', .ref (.prod (.list (.list (.int .i64))) (.prod (.list (.int .i64)) .unit)) sh', .ref .raw pf', .d (.list (.int .i64)) cands', .d (.int .i64) len', .d (.int .i64) i' =>
    kp row left yv v lists sh pf cands len i row' left' yv' v' lists' sh' pf' cands' len' i' s.1
  | _, _, _, _, _, _, _, _, _, _ => false
  else false
noncomputable def k113 (row : Int) (left : List Int) (yv v : Value) (lists : LLI) (sh : SHT) (pf : Value) (cands : List Int) (len i : Int) (x : X) (s : NW) (st : St) : Out (Option (List Int) × List Int) :=
  match x with
  | .normal => (match get st 12 with
    | .arr (.int .i64) xs _ => bif kpS row left yv v lists sh pf cands len i s st then .ret (some xs, s.2) else .fail
    | _ => .fail)
  | .exit 1 => bif kpS row left yv v lists sh pf cands len i s st then .ret (none, s.2) else .fail
  | _ => .fail
def st113 (row : Int) (left : List Int) (yv v : Value) (lists : LLI) (sh : SHT) (pf : Value) (cands : List Int) (len i : Int) : St :=
  [.d (.int .i64) row, .d (.list (.int .i64)) left, .ref .raw yv, .ref .raw v, .ref (.list (.list (.int .i64))) lists, .ref (.prod (.list (.list (.int .i64))) (.prod (.list (.int .i64)) .unit)) sh, .ref .raw pf] ++ List.replicate 17 .und ++ [.d (.list (.int .i64)) cands, .d (.int .i64) len, .d (.int .i64) i] ++ List.replicate 53 .und
noncomputable def vloopC {ρ : Type} (P : Program) [Inv P] (H : Hole) (Φ : Nat → List Spec) (hints : List (Nat × List Nat)) (N : Nat) (T : List (List Nat × HdH H)) (c : Code) (k : X → H.σ → St → Out ρ) (path : List Nat) (n : Nat) (s : H.σ) (st : St) : Out ρ :=
  walkQ P H Φ hints N (fun c T k => match c with
    | .loop b => iterQ (fun k' s st => vhq P H Φ hints N b (subL 0 T) k' s st) (maskOf hints b) k n s st
    | _ => .fail) path c T k
end Go.V
namespace Go.V
open Go.Proofs
noncomputable def specs113s : List Spec := [sp114a, sp116]
noncomputable def specsQ113s (s : NW) : List Spec := [sp114a, (sp115r s), sp116]
def hints113s : List (Nat × List Nat) := [(9, [0, 1, 2, 3, 4, 5, 6, 11, 12, 24, 25, 26, 37, 38, 39])]
noncomputable def r113_13 : Array Oper := regAt 13 (bodyOf Tryz.f113)
noncomputable def D113_6 : Nat → Option (Nat × (NW → St → Bool × Outs HNow)) := fun i => match i with | 3 => some (1, g113_6) | _ => none
theorem D113_6_ok : ∀ i y, D113_6 i = some y → HandQ Tryz.prog HNow r113_6 i y.1 y.2 := by
  intro i y h
  unfold D113_6 at h
  split at h
  · cases h; exact store_ok
  · cases h
noncomputable def T113s : List (List Nat × HdH HNow) := [([1, 0], ⟨fun {ρ} k s st => regQ Tryz.prog HNow (fun s => phi (specsQ113s s)) hints113s D113_6 6 r113_6 k s st⟩),
  ([1, 1, 1, 1, 0, 0, 1, 1, 0, 0, 1, 1, 1, 0], ⟨fun {ρ} k s st => regAnyQ Tryz.prog HNow (fun s => phi (specsQ113s s)) hints113s 16 none 13 r113_13 k s st⟩)]
noncomputable def L113s_0 (N : Nat) (n_L113s_0 : Nat) (row : Int) (left : (List Int)) (yv : Value) (v : Value) (lists : (List (List Int))) (sh : ((List (List Int)) × ((List Int) × Unit))) (pf : Value) (cands : (List Int)) (i : Int) (len : Int) (now : (List Int)) (rest_3 : (List Int)) (t39_4 : Int) : Out (Option (List Int) × List Int) :=
  vloopC Tryz.prog HNow (phi specs113s) hints113s N T113s C113 (k113 row left yv v lists sh pf cands len i) [1, 1, 1, 1, 0] n_L113s_0 ((v, ((now.set (row).toNat (List.getD cands i.toNat (0 : Int)))))) [.d (.int .i64) row, .d (.list (.int .i64)) left, .ref .raw yv, .ref .raw v, .ref (.list (.list (.int .i64))) lists, .ref (.prod (.list (.list (.int .i64))) (.prod (.list (.int .i64)) .unit)) sh, .ref .raw pf, .und, .und, .und, .und, .d (.int .i64) (List.getD cands i.toNat (0 : Int)), .arr (.int .i64) rest_3 false, .und, .und, .und, .und, .und, .und, .und, .und, .und, .und, .und, .d (.list (.int .i64)) cands, .d (.int .i64) len, .d (.int .i64) i, .und, .und, .und, .und, .und, .und, .und, .und, .und, .und, .d (.list (.list (.int .i64))) sh.1, .d (.int .i64) (lenI sh.1), .d (.int .i64) t39_4, .und, .und, .und, .und, .und, .und, .und, .und, .und, .und, .und, .und, .und, .und, .und, .und, .und, .und, .und, .und, .und, .und, .und, .und, .und, .und, .und, .und, .und, .und, .und, .und, .und, .und, .und, .und, .und, .und, .und, .und]
theorem L113s_0_succ (N : Nat) (n_L113s_0 : Nat) (row : Int) (left : (List Int)) (yv : Value) (v : Value) (lists : (List (List Int))) (sh : ((List (List Int)) × ((List Int) × Unit))) (pf : Value) (cands : (List Int)) (i : Int) (len : Int) (now : (List Int)) (rest_3 : (List Int)) (t39_4 : Int) : L113s_0 N  (n_L113s_0 + 1) row left yv v lists sh pf cands i len now rest_3 t39_4 =
    (
    match (decide (t39_4 < (lenI sh.1))) with
    | true =>
      bif (inb t39_4 sh.1.length) then
        bif (inb row (List.getD sh.1 t39_4.toNat ([] : List Int)).length) then
          match ((List.getD (List.getD sh.1 t39_4.toNat ([] : List Int)) row.toNat (0 : Int)) == (List.getD cands i.toNat (0 : Int))) with
          | true =>
            L113s_0 N n_L113s_0 row left yv v lists sh pf cands i len now rest_3 (IntKind.i64.wrap (t39_4 + (1 : Int)))
          | false =>
            bif (inb t39_4 rest_3.length) then
              bif (decide ((t39_4.toNat) < rest_3.length)) then
                bif (inb t39_4 rest_3.length) then
                  bif (decide ((t39_4.toNat) < rest_3.length)) then
                    bif (inb t39_4 (List.set rest_3 (t39_4.toNat) (IntKind.i64.wrap ((List.getD rest_3 (t39_4.toNat) (0 : Int)) - (1 : Int)))).length) then
                      bif (decide ((t39_4.toNat) < (List.set rest_3 (t39_4.toNat) (IntKind.i64.wrap ((List.getD rest_3 (t39_4.toNat) (0 : Int)) - (1 : Int)))).length)) then
                        match (decide ((List.getD (List.set rest_3 (t39_4.toNat) (IntKind.i64.wrap ((List.getD rest_3 (t39_4.toNat) (0 : Int)) - (1 : Int)))) (t39_4.toNat) (0 : Int)) < (0 : Int))) with
                        | true =>
                          bif (kp row left yv v lists sh pf cands len i row left yv v lists sh pf cands len i v) then
                            .ret (((none : Option (List Int)), ((now.set (row).toNat (List.getD cands i.toNat (0 : Int))))))
                          else .fail
                        | false =>
                          match (f115r ((v, ((now.set (row).toNat (List.getD cands i.toNat (0 : Int))))))) (v, (row, ())) with
                          | .ret r_5 =>
                            bif (inb row (List.getD sh.1 t39_4.toNat ([] : List Int)).length) then
                              match f116 (r_5, ((List.getD (List.getD sh.1 t39_4.toNat ([] : List Int)) row.toNat (0 : Int)), ())) with
                              | .ret r_7 =>
                                match (r_7 == (0 : Int)) with
                                | true =>
                                  bif (kp row left yv v lists sh pf cands len i row left yv v lists sh pf cands len i v) then
                                    .ret (((none : Option (List Int)), ((now.set (row).toNat (List.getD cands i.toNat (0 : Int))))))
                                  else .fail
                                | false =>
                                  L113s_0 N n_L113s_0 row left yv v lists sh pf cands i len now (List.set rest_3 (t39_4.toNat) (IntKind.i64.wrap ((List.getD rest_3 (t39_4.toNat) (0 : Int)) - (1 : Int)))) (IntKind.i64.wrap (t39_4 + (1 : Int)))
                              | .pan p_8 =>
                                .fail
                              | .fail => .fail
                            else .fail
                          | .pan p_6 =>
                            bif (inb row (List.getD sh.1 t39_4.toNat ([] : List Int)).length) then
                              .fail
                            else .fail
                          | .fail => .fail
                      else .fail
                    else .fail
                  else .fail
                else .fail
              else .fail
            else .fail
        else .fail
      else .fail
    | false =>
      bif (kp row left yv v lists sh pf cands len i row left yv v lists sh pf cands len i v) then
        .ret ((some rest_3, ((now.set (row).toNat (List.getD cands i.toNat (0 : Int))))))
      else .fail : Out (Option (List Int) × List Int)) := by
  kernel_rfl
noncomputable def S113 (N : Nat) (row : Int) (left : (List Int)) (yv : Value) (v : Value) (lists : (List (List Int))) (sh : ((List (List Int)) × ((List Int) × Unit))) (pf : Value) (cands : (List Int)) (len : Int) (i : Int) (now : List Int) : Out (Option (List Int) × List Int) :=
  bif (inb i cands.length) then
    bif (isV v v && inb row now.length) then
      match f114 (left, ()) with
      | .ret r_1 =>
        L113s_0 N N row left yv v lists sh pf cands i len now r_1 (0 : Int)
      | .pan p_2 =>
        .pan p_2
      | .fail => .fail
    else .fail
  else .fail
theorem s113 (N : Nat) (row : Int) (left : (List Int)) (yv : Value) (v : Value) (lists : (List (List Int))) (sh : ((List (List Int)) × ((List Int) × Unit))) (pf : Value) (cands : (List Int)) (len : Int) (i : Int) (now : List Int) : vhq Tryz.prog HNow (phi specs113s) hints113s N C113 T113s (k113 row left yv v lists sh pf cands len i) (v, now) (st113 row left yv v lists sh pf cands len i) = S113 N row left yv v lists sh pf cands len i now := by
  kernel_rfl
end Go.V
namespace Go.V
open Go.Proofs
open Go.RowKit (Below)
noncomputable def sortC (xs : List Int) : List Int := Lib.compact (xs.mergeSort fun x y => decide (x ≤ y))
theorem putRow_block {w : World} {g k : Nat} {d : Array Int} {n : Nat} (hk : k ≠ g) : (Sort.putRow (Value.int .i64) (Sort.ahead w n) g 0 d).heap[k]? = w.heap[k]? := by
  unfold Sort.putRow Sort.mapBlock Sort.ahead
  simp only [Array.getElem?_modify]
  rw [if_neg (Ne.symm hk)]
theorem grow_block {w : World} {os : Array Obj} {k : Nat} (hk : k < w.heap.size) : (Sort.grow w os).heap[k]? = w.heap[k]? := by
  unfold Sort.grow
  simp only [Array.getElem?_append]
  rw [if_pos hk]
theorem own_holds {M : Mut} {w : World} {g cap : Nat} {xs : List Int} {cells : Array Value} {T : TypeId} (hrep : RepC M w (.list (.int .i64)) [.slice (some ⟨g, 0, none⟩) xs.length cap] xs) (hh : w.heap[g]? = some (.cells cells T (0, 0))) : Sort.Holds (Value.int .i64) w g 0 xs.toArray := by
  intro j hj
  have hj : j < xs.length := by simpa using hj
  obtain ⟨ad, cp, e1, e2, e3⟩ := hrep
  simp only [List.cons.injEq, Value.slice.injEq, and_true] at e1
  have e1 := e1.1
  subst e1
  obtain ⟨b, o, ec, f1, f2, f3, f4⟩ := e3 j hj
  simp only [Option.some.injEq, Addr.mk.injEq, and_true] at f1
  obtain ⟨rfl, rfl⟩ := f1
  have f4 : ec = [.int .i64 xs[j]] := f4
  subst f4
  have := (f3 0 (by simp)).1
  refine ⟨?_, ?_⟩
  · have e : xs.toArray[j]! = xs[j] := by rw [getElem!_pos _ j (by simpa using hj)]; simp
    rw [e]
    have this : w.cell? ⟨g, 0 + j * 1 + 0, none⟩ = some (.int .i64 xs[j]) := this
    rw [Nat.mul_one, Nat.add_zero] at this
    exact this
  · unfold World.frozen?
    simp [hh]
theorem rep_holds {M : Mut} {w : World} {g cap : Nat} {xs : List Int} (hh : Sort.Holds (Value.int .i64) w g 0 xs.toArray) (hc : xs.length ≤ cap) (hM : ∀ o, ¬ M g o) : RepC M w (.list (.int .i64)) [.slice (some ⟨g, 0, none⟩) xs.length cap] xs := by
  refine ⟨some ⟨g, 0, none⟩, cap, rfl, hc, fun i hi => ⟨g, 0, [.int .i64 xs[i]], rfl, rfl, fun j hj => ?_, rfl⟩⟩
  have hi : i < List.length (α := Int) xs := hi
  have hj : j = 0 := by simpa using hj
  subst hj
  have := (hh i (by simpa using hi)).1
  have e : xs.toArray[i]! = List.get (α := Int) xs ⟨i, hi⟩ := by rw [getElem!_pos _ i (by simpa using hi)]; simp
  rw [e] at this
  refine ⟨?_, hM _⟩
  show w.cell? ⟨g, 0 + i * 1 + 0, none⟩ = some (.int .i64 (List.get (α := Int) xs ⟨i, hi⟩))
  rw [Nat.mul_one, Nat.add_zero]
  exact this
theorem compact_len (zs : List Int) : (Lib.compact zs).length ≤ zs.length := by
  unfold Lib.compact Lib.compactUpTo
  rw [List.length_map]
  refine Nat.le_trans (List.length_filter_le _ _) ?_
  simp
theorem sort_calls {M : Mut} {w : World} {v : Value} {xs : List Int} (hrep : RepC M w (.list (.int .i64)) [v] xs) (hown : OwnAt M w 1 v xs.length) (hl : xs.length < 1000000000) :
    Calls Tryz.prog 110 #[v] w fun e w1 => (∃ u, e = .returned u) ∧ Fr (fun k => k < w.heap.size ∧ ownB v ≠ some k) w w1 ∧ Calls Tryz.prog 111 #[v] w1 fun e w2 => ∃ u, e = .returned u ∧ Fr (fun k => k < w.heap.size ∧ ownB v ≠ some k) w w2 ∧ RepC (fun b o => M b o ∧ ownB v ≠ some b) w2 (.list (.int .i64)) [u] (sortC xs) := by
  rcases hown with ⟨rfl, h0⟩ | ⟨g, cap, cells, T, rfl, hh, hcap, _, hsz, _⟩
  · have hx : xs = [] := List.eq_nil_of_length_eq_zero h0
    subst hx
    have h74 : Calls Tryz.prog 110 #[.slice none 0 0] w fun e w' => e = .returned (.tuple #[]) ∧ w' = w := Tryz.slices_Sort_int_none none 0 w
    refine h74.mono ?_
    rintro e w1 ⟨rfl, rfl⟩
    refine ⟨⟨_, rfl⟩, Fr.refl _ _, (Tryz.slices_Compact_int_empty none 0 w1).mono ?_⟩
    rintro e w2 ⟨rfl, rfl⟩
    have hz : sortC [] = [] := by unfold sortC Lib.compact Lib.compactUpTo; simp
    rw [hz]
    exact ⟨_, rfl, Fr.refl _ _, RepC.list_nil _⟩
  · have hg : g < w.heap.size := (Array.getElem?_eq_some_iff.1 hh).1
    have hH := own_holds hrep hh
    have h74 := Tryz.slices_Sort_int g 0 cap xs w hH hg (by omega)
    refine h74.mono ?_
    rintro e w1 ⟨rfl, n, os, rfl⟩
    obtain ⟨ys, hys⟩ : ∃ ys, ys = xs.mergeSort fun x y => decide (x ≤ y) := ⟨_, rfl⟩
    rw [← hys]
    have hyl : ys.length = xs.length := by rw [hys, List.length_mergeSort]
    obtain ⟨w0, hw0⟩ : ∃ w0, w0 = Sort.putRow (Value.int .i64) (Sort.ahead w n) g 0 ys.toArray := ⟨_, rfl⟩
    rw [← hw0]
    have hs0 : w0.heap.size = w.heap.size := by rw [hw0, Sort.size_putRow]; rfl
    have hH0 : Sort.Holds (Value.int .i64) w0 g 0 ys.toArray := by rw [hw0]; exact Sort.holds_putRow _ _ _ _ _ _ (Sort.holds_ahead _ _ n _ _ _ hH) (by simp [hyl])
    obtain ⟨w1, hw1⟩ : ∃ w1, w1 = Sort.grow w0 os := ⟨_, rfl⟩
    rw [← hw1]
    have hb1 : ∀ k, k < w.heap.size → w1.heap[k]? = w0.heap[k]? := fun k hk => by rw [hw1]; exact grow_block (by omega)
    have hH1 : Sort.Holds (Value.int .i64) w1 g 0 ys.toArray := fun j hj => by
      obtain ⟨h1, h2⟩ := hH0 j hj
      refine ⟨(World.cell?_of_block (a := ⟨g, 0 + j, none⟩) (hb1 g hg)).trans h1, ?_⟩
      unfold World.frozen? at h2 ⊢
      rw [show w1.heap[(⟨g, 0 + j, none⟩ : Addr).block]? = w0.heap[g]? from hb1 g hg]
      exact h2
    have hs1 : w.heap.size ≤ w1.heap.size := by rw [hw1, Sort.size_grow]; omega
    have hf1 : Fr (fun k => k < w.heap.size ∧ ownB (.slice (some ⟨g, 0, none⟩) xs.length cap) ≠ some k) w w1 := by
      refine ⟨by rw [hw1, hw0]; rfl, by rw [hw1, hw0]; rfl, by rw [hw1, hw0]; rfl, hs1, fun k hk => ?_⟩
      rw [hb1 k hk.1, hw0, putRow_block]
      exact fun e => hk.2 (by rw [e]; rfl)
    refine ⟨⟨_, rfl⟩, hf1, ?_⟩
    have h75 := Tryz.slices_Compact_int g 0 cap ys w1 hH1 (by omega) (by omega)
    rw [hyl] at h75
    refine h75.mono ?_
    rintro e w2 ⟨rfl, q, rfl⟩
    have hcl := compact_len ys
    obtain ⟨zs, hzs⟩ : ∃ zs, zs = Lib.compact ys := ⟨_, rfl⟩
    rw [← hzs] at hcl ⊢
    obtain ⟨w2, hw2⟩ : ∃ w2, w2 = Sort.putRow (Value.int .i64) (Sort.ahead w1 q) g 0 (zs ++ List.replicate (xs.length - zs.length) 0).toArray := ⟨_, rfl⟩
    rw [← hw2]
    have hH2 : Sort.Holds (Value.int .i64) w2 g 0 (zs ++ List.replicate (xs.length - zs.length) 0).toArray := by rw [hw2]; exact Sort.holds_putRow _ _ _ _ _ _ (Sort.holds_ahead _ _ q _ _ _ hH1) (by simp; omega)
    have hH3 : Sort.Holds (Value.int .i64) w2 g 0 zs.toArray := fun j hj => by
      have hj : j < zs.length := by simpa using hj
      obtain ⟨h1, h2⟩ := hH2 j (by simp; omega)
      refine ⟨?_, h2⟩
      have e : (zs ++ List.replicate (xs.length - zs.length) 0).toArray[j]! = zs.toArray[j]! := by
        rw [getElem!_pos _ j (by simp; omega), getElem!_pos _ j (by simpa using hj)]
        simp [List.getElem_append_left hj]
      rw [h1, e]
    refine ⟨_, rfl, hf1.trans ⟨by rw [hw2]; rfl, by rw [hw2]; rfl, by rw [hw2]; rfl, by rw [hw2, Sort.size_putRow]; exact Nat.le_refl _, fun k hk => ?_⟩, ?_⟩
    · rw [hw2, putRow_block]
      exact fun e => hk.2 (by rw [e]; rfl)
    · have hz : sortC xs = zs := by unfold sortC; rw [hzs, hys]
      rw [hz]
      exact rep_holds hH3 (by omega) fun o h => h.2 rfl
theorem ex_call1 {g : Nat} (hent : enters Tryz.prog g = true) {a : Act} {w : World} {o : Oper} {p : Nat} {v : Value} (ho : o.op = .call { callee := .value (.func g), args := #[.tmp p], argTypes := #[29] }) (h1 : tm a p = v) : (execOp a.eval o).run Tryz.prog w = .ok (.enter g #[v]) w := by
  have e1 : a.eval (.tmp p) = v := h1
  have e4 : a.eval (.func g) = .func (.func g) #[] #[] := rfl
  have e3 := enters_run (P := Tryz.prog) (g := g) hent #[v] w
  simp [execOp, ho, resolve, e1, e4, Deferred.ofValue, invoke, e3]
noncomputable def r84_13 : Array Oper := regAt 13 (bodyOf Tryz.f84)
noncomputable def r84_14 : Array Oper := regAt 14 (bodyOf Tryz.f84)
noncomputable def tail84 : Code := .seq (.region 13 r84_13 false) (.seq (.region 14 r84_14 false) .ret)
theorem info84_13 : r84_13.toList.map opInfo = [(some 40, .move (.tmp 6), none), (some 41, .call { callee := .value (.func 110), args := #[.tmp 40], argTypes := #[29] }, none)] := by kernel_rfl
theorem info84_14 : r84_14.toList.map opInfo = [(some 42, .move (.tmp 6), none), (some 43, .call { callee := .value (.func 111), args := #[.tmp 42], argTypes := #[29] }, none), (some 44, .move (.tmp 9), none), (some 4, .assign (.tmp 43), none), (some 5, .assign (.tmp 44), none)] := by kernel_rfl
def tail84S (r : List Int) (o : Int) : St := ((List.replicate 45 S.und).set 4 (.d (.list (.int .i64)) r)).set 5 (.d (.int .i64) o)
theorem tail84_wp {F : Nat → Prop} {M0 : Base} {w0 : World} {n : Nat} (hz : Zf F M0) (hpl : ∀ j v, M0.pin j = some v → False) {Q : Exit → Act → World → Prop} {st : St} {act : Act} {w : World} {M : Mut} {s : H0.σ}
    (hfr : Fr F w0 w) (hG : GoodH H0 F M0 s M st act w) (hlen : st.length = 45) {v : Value} {xs : List Int} {o : Int} (hv : tm act 6 = v) (ho : tm act 9 = .int .i64 o) (hrep : RepC M w (.list (.int .i64)) [v] xs) (hown : OwnAt M w 1 v xs.length) (hl : xs.length < 1000000000)
    (hgF : ∀ g, ownB v = some g → ¬ F g) (hQ : ∀ a' w', ConcH H0 F M0 w0 s (tail84S (sortC xs) o) a' w' → Q .ret a' w') : tail84.wpIn (fen none) n Tryz.prog Q act w := by
  have hg := hG.2.1
  have hsz : act.tmps.size = 45 := hg.size.trans hlen
  have hrA : r84_13.size = 2 := by have := congrArg List.length info84_13; simpa using this
  have hrB : r84_14.size = 5 := by have := congrArg List.length info84_14; simpa using this
  obtain ⟨o0, i0, d0, q0, g0⟩ := infoAt info84_13 (i := 0) rfl
  obtain ⟨o1, i1', d1, q1, g1⟩ := infoAt info84_13 (i := 1) rfl
  obtain ⟨o2, i2', d2, q2, g2⟩ := infoAt info84_14 (i := 0) rfl
  obtain ⟨o3, i3, d3, q3, g3⟩ := infoAt info84_14 (i := 1) rfl
  obtain ⟨o4, i4, d4, q4, g4⟩ := infoAt info84_14 (i := 2) rfl
  obtain ⟨o5, i5, d5, q5, g5⟩ := infoAt info84_14 (i := 3) rfl
  obtain ⟨o6, i6, d6, q6, g6⟩ := infoAt info84_14 (i := 4) rfl
  simp only at d0 q0 g0 d1 q1 g1 d2 q2 g2 d3 q3 g3 d4 q4 g4 d5 q5 g5 d6 q6 g6
  refine wpIn_seq (wpIn_region ?_)
  rw [hrA]
  show wpOpsIn (fen none) n Tryz.prog r84_13 _ [0, 1] act w
  rw [wpOpsIn_cons]
  refine opn_value i0 (wanted_none g0) (fun c h => by rw [q0] at h; cases h) (ex_move q0) ?_
  rw [d0, hv, wpOpsIn_cons]
  refine opn_enter i1' (wanted_none g1) (fun c h => by rw [q1] at h; cases h) (ex_call1 (by kernel_rfl) q1 (tm_put_same (by omega))) ((sort_calls hrep hown hl).mono ?_)
  rintro e w1 ⟨⟨u, rfl⟩, hf1, h75⟩
  refine ⟨u, rfl, ?_⟩
  rw [d1]
  show (Code.seq (.region 14 r84_14 false) .ret).wpIn (fen none) n Tryz.prog Q ((act.put (some 40) v).put (some 41) u) w1
  refine wpIn_seq (wpIn_region ?_)
  rw [hrB]
  show wpOpsIn (fen none) n Tryz.prog r84_14 _ [0, 1, 2, 3, 4] ((act.put (some 40) v).put (some 41) u) w1
  rw [wpOpsIn_cons]
  refine opn_value i2' (wanted_none g2) (fun c h => by rw [q2] at h; cases h) (ex_move q2) ?_
  rw [tm_put_other (by omega), tm_put_other (by omega), hv, d2, wpOpsIn_cons]
  refine opn_enter i3 (wanted_none g3) (fun c h => by rw [q3] at h; cases h) (ex_call1 (by kernel_rfl) q3 (tm_put_same (by rw [size_put, size_put]; omega))) (h75.mono ?_)
  rintro e w2 ⟨r, rfl, hf2, hrep2⟩
  refine ⟨r, rfl, ?_⟩
  rw [d3, wpOpsIn_cons]
  refine opn_value i4 (wanted_none g4) (fun c h => by rw [q4] at h; cases h) (ex_move q4) ?_
  rw [tm_put_other (by omega), tm_put_other (by omega), tm_put_other (by omega), tm_put_other (by omega), ho, d4, wpOpsIn_cons]
  refine opn_value i5 (wanted_none g5) (fun c h => by rw [q5] at h; cases h) (ex_assign q5) ?_
  rw [tm_put_other (by omega), tm_put_same (by simp only [size_put]; omega), d5, wpOpsIn_cons]
  refine opn_value i6 (wanted_none g6) (fun c h => by rw [q6] at h; cases h) (ex_assign q6) ?_
  rw [tm_put_other (by omega), tm_put_same (by simp only [size_put]; omega), d6]
  refine wpIn_ret (hQ _ _ ?_)
  obtain ⟨a', ha'⟩ : ∃ a', a' = ((((((act.put (some 40) v).put (some 41) u).put (some 42) v).put (some 43) r).put (some 44) (.int .i64 o)).put (some 4) r).put (some 5) (.int .i64 o) := ⟨_, rfl⟩
  rw [← ha']
  have hsz' : a'.tmps.size = 45 := by rw [ha']; simp only [size_put]; exact hsz
  have t6 : tm a' 4 = r := by rw [ha', tm_put_other (by omega), tm_put_same (by simp only [size_put]; omega)]
  have t7 : tm a' 5 = .int .i64 o := by rw [ha', tm_put_same (by simp only [size_put]; omega)]
  have hFg : ∀ b, F b → ownB v ≠ some b := fun b hb e => hgF b e hb
  have hb : ∀ k, k < w.heap.size → ownB v ≠ some k → w2.heap[k]? = w.heap[k]? := fun k h1 h2 => hf2.block k ⟨h1, h2⟩
  have hlt6 : 4 < (List.replicate 45 S.und).length := by simp
  have g6 : get (tail84S (sortC xs) o) 4 = .d (.list (.int .i64)) (sortC xs) := by
    unfold tail84S
    rw [get_setne (by omega), get_set _ _ _ _ hlt6, if_pos rfl]
  have g7 : get (tail84S (sortC xs) o) 5 = .d (.int .i64) o := by
    unfold tail84S
    rw [get_set _ _ _ _ (by simp), if_pos rfl]
  have gu : ∀ i, i ≠ 4 → i ≠ 5 → get (tail84S (sortC xs) o) i = .und := fun i h1 h2 => by
    unfold tail84S
    rw [get_setne h2, get_setne h1, get_repl]
  have hno : ∀ i k b, ¬ owns (tail84S (sortC xs) o) a' w2 i k b := fun i k b ho => by
    have key : ownS (get (tail84S (sortC xs) o) i) = false := by
      by_cases e6 : i = 4
      · subst e6; rw [g6]; rfl
      · by_cases e7 : i = 5
        · subst e7; rw [g7]; rfl
        · rw [gu i e6 e7]; rfl
    cases k with
    | none => rw [ho.1] at key; cases key
    | some k => obtain ⟨cs, _, _, _, e, _⟩ := ho; rw [e] at key; cases key
  have hdf : a'.defers = act.defers := by rw [ha']; simp only [defers_put]
  have hKD : KeepsD w w2 := fun D c e => by
    rw [hb D (Array.getElem?_eq_some_iff.1 e).1 fun hv => ?_]
    · exact e
    · rcases hown with ⟨rfl, _⟩ | ⟨g, cap, cells, T, rfl, hh, _⟩
      · cases hv
      · cases hv; rw [hh] at e; cases e
  refine ⟨hfr.trans ⟨hf2.os, hf2.tape, hf2.output, hf2.size, fun k hk => hb k (hg.room k hk) (hFg k hk)⟩, fun b o => M b o ∧ ownB v ≠ some b, trivial, ?_, fun b h => h.elim⟩
  refine ⟨by rw [hdf]; exact hg.defers.keep hKD, by rw [hsz']; unfold tail84S; simp, fun b h => Nat.lt_of_lt_of_le (hg.room b h) hf2.size, hg.base, fun b o h => ⟨hg.up b o h, hFg b (hg.base b o h)⟩, fun b o h => Nat.lt_of_lt_of_le (hg.lt b o h.1) hf2.size, fun b o hF h => hg.down b o hF h.1,
    fun i => ?_, fun i k j l b h => absurd h (hno i k b), fun i k b h => absurd h (hno i k b), fun b o u h1 h2 => ?_, fun j v hj => (hpl j v hj).elim, hg.dm⟩
  · by_cases e6 : i = 4
    · subst e6
      rw [g6, t6]
      exact ⟨[r], rfl, hrep2⟩
    · by_cases e7 : i = 5
      · subst e7; rw [g7, t7]; exact ⟨_, rfl, rfl⟩
      · rw [gu i e6 e7]; trivial
  · obtain ⟨k1, k2⟩ := hg.keep b o u h1 h2
    have hFb := hz b (cell_lt h1)
    exact ⟨(World.cell?_of_block (a := ⟨b, o, none⟩) (hb b (hg.room b hFb) (hFg b hFb))).trans k1, fun h => k2 h.1⟩
noncomputable def E84 {ρ : Type} (k : X → H0.σ → St → Out ρ) (s : H0.σ) (st : St) : Out ρ :=
  match get st 6 with
  | .own (.int .i64) xs _ => (match get st 9 with
    | .d (.int .i64) o => bif st.length == 45 && decide (List.length (α := Int) xs < 1000000000) then k .ret s (tail84S (sortC xs) o) else .fail
    | _ => .fail)
  | _ => .fail
theorem E84_ok : EOKZ Tryz.prog H0 tail84 (fun {ρ} k s st => E84 k s st) := by
  intro ρ fin hf hr F M0 w0 n hz hI hpl k Q hQ s st a w hc h
  have h : E84 k s st = fin := h
  unfold E84 at h
  split at h
  rotate_left
  · exact absurd h.symm hf
  rename_i xs hot e8
  split at h
  rotate_left
  · exact absurd h.symm hf
  rename_i o e9
  cases hcd : (st.length == 45 && decide (List.length (α := Int) xs < 1000000000)) with
  | false => rw [hcd] at h; exact absurd h.symm hf
  | true =>
  rw [hcd] at h
  simp only [Bool.and_eq_true, beq_iff_eq, decide_eq_true_eq] at hcd
  obtain ⟨hlen, hl⟩ := hcd
  obtain ⟨hfr, M, hG⟩ := hc
  have s8 := hG.2.1.slot 6
  rw [e8] at s8
  have s9 := hG.2.1.slot 9
  rw [e9] at s9
  obtain ⟨cs, t9, q9⟩ := s9
  have q9 : cs = [.int .i64 o] := q9
  subst q9
  exact tail84_wp hz hpl hfr hG hlen rfl t9 s8.1 s8.2 hl (fun g hg => hG.2.1.new 6 none g ⟨by rw [e8]; rfl, hg⟩) fun a' w' hc' => hQ .ret s _ a' w' hc' h
end Go.V
namespace Go.V
open Go.Proofs
noncomputable def specs84 : List Spec := [sp107, sp108, sp109]
def hints84 : List (Nat × List Nat) := [(3, [1, 2, 6, 12, 13, 14]), (10, [6, 9])]
noncomputable def specsQ84 (s : Unit) : List Spec := [sp107, sp108, sp109]
noncomputable def r84_4 : Array Oper := regAt 4 (bodyOf Tryz.f84)
noncomputable def D84_4 : Nat → Option (Nat × (Unit → St → Bool × Outs H0)) := fun _ => none
theorem D84_4_ok : ∀ i y, D84_4 i = some y → HandQ Tryz.prog H0 r84_4 i y.1 y.2 := fun _ _ h => by cases h
noncomputable def r84_11 : Array Oper := regAt 11 (bodyOf Tryz.f84)
noncomputable def D84_11 : Nat → Option (Nat × (Unit → St → Bool × Outs H0)) := fun _ => none
theorem D84_11_ok : ∀ i y, D84_11 i = some y → HandQ Tryz.prog H0 r84_11 i y.1 y.2 := fun _ _ h => by cases h
noncomputable def T84 : List (List Nat × HdH H0) := [([1, 1, 0, 1, 0, 0, 1, 1, 0, 0, 0], ⟨fun {ρ} k s st => regQ Tryz.prog H0 (fun s => phi (specsQ84 s)) hints84 D84_4 4 r84_4 k s st⟩),
  ([1, 1, 1, 1, 1, 0, 0, 0, 1, 0], ⟨fun {ρ} k s st => regQ Tryz.prog H0 (fun s => phi (specsQ84 s)) hints84 D84_11 11 r84_11 k s st⟩),
  ([1, 1, 1, 1, 1, 1, 1], ⟨fun {ρ} k s st => E84 k s st⟩)]
theorem allQ84 (h : ∀ s, ∀ sp ∈ specsQ84 s, CallH Tryz.prog H0 s sp) : AllZ Tryz.prog H0 (bodyOf Tryz.f84) (T84) := (allZ_consH (c' := .region 4 r84_4 false) (by kernel_rfl) (regQ_ok (fun s g sp hs => h s sp (List.mem_filter.1 hs).1) hints84 D84_4_ok) (allZ_consH (c' := .region 11 r84_11 false) (by kernel_rfl) (regQ_ok (fun s g sp hs => h s sp (List.mem_filter.1 hs).1) hints84 D84_11_ok) (allZ_cons (c' := tail84) (by kernel_rfl) E84_ok allZ_nil)))
noncomputable def L84_1 (N : Nat) (n_L84_1 : Nat) (out_10 : (List Int)) (other_11 : Int) : Out (Unit × ((List Int) × (Int × Unit))) :=
  vloopQ Tryz.prog H0 (phi specs84) hints84 N (T84) Tryz.f84 true false (.prod (.list (.int .i64)) (.prod (.int .i64) .unit)) [1, 1, 1, 1, 1, 0, 0] n_L84_1 (()) [.und, .und, .und, .und, .und, .und, .own (.int .i64) out_10 false, .und, .und, .d (.int .i64) other_11, .und, .und, .und, .und, .und, .und, .und, .und, .und, .und, .und, .und, .und, .und, .und, .und, .und, .und, .und, .und, .und, .und, .und, .und, .und, .und, .und, .und, .und, .und, .und, .und, .und, .und, .und]
noncomputable def L84_0 (N : Nat) (n_L84_0 : Nat) (x : (((List (List Int)) × ((List Int) × Unit)) × (Int × Unit))) (r_1 : (List Int)) (out_3 : (List Int)) (t12_4 : (List Int)) (t14_5 : Int) : Out (Unit × ((List Int) × (Int × Unit))) :=
  vloopQ Tryz.prog H0 (phi specs84) hints84 N (T84) Tryz.f84 true false (.prod (.list (.int .i64)) (.prod (.int .i64) .unit)) [1, 1, 0, 1, 0] n_L84_0 (()) [.und, .d (.int .i64) x.2.1, .box [.d (.list (.list (.int .i64))) x.1.1, .d (.list (.int .i64)) x.1.2.1], .und, .und, .und, .own (.int .i64) out_3 false, .und, .und, .und, .und, .und, .own (.int .i64) t12_4 false, .d (.int .i64) (lenI r_1), .d (.int .i64) t14_5, .und, .und, .und, .und, .und, .und, .und, .und, .und, .und, .und, .und, .und, .und, .und, .und, .und, .und, .und, .und, .und, .und, .und, .und, .und, .und, .und, .und, .und, .und]
theorem L84_1_succ (N : Nat) (n_L84_1 : Nat) (out_10 : (List Int)) (other_11 : Int) : L84_1 N  (n_L84_1 + 1) out_10 other_11 =
    (
    match f109 (out_10, (other_11, ())) with
    | .ret r_12 =>
      match r_12 with
      | true =>
        L84_1 N n_L84_1 out_10 (IntKind.i64.wrap (other_11 + (1 : Int)))
      | false =>
        bif (fits out_10 ([other_11] : List Int)) then
          bif (decide (((out_10 ++ ([other_11] : List Int)) : List Int).length < 1000000000)) then
            .ret ((()), (((sortC (out_10 ++ ([other_11] : List Int)))), (other_11, ())))
          else .fail
        else .fail
    | .pan p_13 =>
      .pan p_13
    | .fail => .fail : Out (Unit × ((List Int) × (Int × Unit)))) := by
  kernel_rfl
theorem L84_0_succ (N : Nat) (n_L84_0 : Nat) (x : (((List (List Int)) × ((List Int) × Unit)) × (Int × Unit))) (r_1 : (List Int)) (out_3 : (List Int)) (t12_4 : (List Int)) (t14_5 : Int) : L84_0 N  (n_L84_0 + 1) x r_1 out_3 t12_4 t14_5 =
    (
    match (decide (t14_5 < (lenI r_1))) with
    | true =>
      bif (inb t14_5 t12_4.length) then
        match f108 ((List.getD t12_4 t14_5.toNat (0 : Int)), ()) with
        | .ret r_6 =>
          bif (fits out_3 r_6) then
            L84_0 N n_L84_0 x r_1 (out_3 ++ r_6) t12_4 (IntKind.i64.wrap (t14_5 + (1 : Int)))
          else .fail
        | .pan p_7 =>
          .pan p_7
        | .fail => .fail
      else .fail
    | false =>
      match (decide (x.2.1 > (0 : Int))) with
      | true =>
        match f107 (x.1, ((IntKind.i64.wrap (x.2.1 - (1 : Int))), ())) with
        | .ret r_8 =>
          bif (fits out_3 r_8) then
            L84_1 N N (out_3 ++ r_8) (-999 : Int)
          else .fail
        | .pan p_9 =>
          .pan p_9
        | .fail => .fail
      | false =>
        L84_1 N N out_3 (-999 : Int) : Out (Unit × ((List Int) × (Int × Unit)))) := by
  kernel_rfl
noncomputable def F84 (N : Nat) (x : (((List (List Int)) × ((List Int) × Unit)) × (Int × Unit))) : Out (Unit × ((List Int) × (Int × Unit))) :=
  match f107 (x.1, (x.2.1, ())) with
  | .ret r_1 =>
    L84_0 N N x r_1 ([] : List Int) r_1 (0 : Int)
  | .pan p_2 =>
    .pan p_2
  | .fail => .fail
theorem e84 (N : Nat) (x : (((List (List Int)) × ((List Int) × Unit)) × (Int × Unit))) : vfnQ Tryz.prog H0 (phi specs84) hints84 N (T84) Tryz.f84 true false (.prod (.prod (.list (.list (.int .i64))) (.prod (.list (.int .i64)) .unit)) (.prod (.int .i64) .unit)) (.prod (.list (.int .i64)) (.prod (.int .i64) .unit)) (()) x = F84 N x := by
  kernel_rfl
noncomputable def f84 (x : (((List (List Int)) × ((List Int) × Unit)) × (Int × Unit))) : Out ((List Int) × (Int × Unit)) := dropG (F84 fuel x)
noncomputable def sp84 : Spec := ⟨84, .call, (.prod (.prod (.list (.list (.int .i64))) (.prod (.list (.int .i64)) .unit)) (.prod (.int .i64) .unit)), (.prod (.list (.int .i64)) (.prod (.int .i64) .unit)), true, false, f84⟩
theorem c84 : Contract Tryz.prog sp84 := contract_dropZ (H := H0) () (fun w b h => h) (fun M w => trivial) (l := specs84) (fun sp hs => (by simp only [specs84, List.mem_cons, List.not_mem_nil, or_false] at hs; rcases hs with rfl | rfl | rfl <;> first | exact c107 | exact c108 | exact c109)) Tryz.func84 rfl (allQ84 fun s sp hs => .inl (by simp only [specsQ84, List.mem_cons, List.not_mem_nil, or_false] at hs; rcases hs with rfl | rfl | rfl <;> first | exact c107 | exact c108 | exact c109)) hints84 fuel (e84 fuel)
end Go.V
namespace Go.V
open Go.Proofs
theorem at113_eq : at113 [] = .seq (at113 [0]) (.seq (at113 [1, 0]) (.seq (at113 [1, 1, 0]) (.seq (at113 [1, 1, 1, 0]) (at113 [1, 1, 1, 1])))) := by kernel_rfl
section
variable {P : Program} [Inv P] {H : Hole} {Φ : Nat → List Spec} {ρ : Type}
theorem chain_seq (hΦ : ∀ g sp, sp ∈ Φ g → Contract P sp) (hm : P.follows .mixedOrders = true) (hints : List (Nat × List Nat)) (N : Nat) {fin : Out ρ} (hf : fin ≠ .fail) (hr : ∀ p, fin ≠ .pan p) {c1 c2 c3 : Code} {T : List (List Nat × HdH H)} (hT : AllQ P H (.seq c1 c2) T)
    (hT0 : T ≠ []) (hT1 : hereL T = none) {F : Nat → Prop} {M0 : Base} {w0 : World} {n : Nat} (hI : ∀ w, Fr F w0 w → Inv.I P w) (hpl : ∀ j v, M0.pin j = some v → False) {k : X → H.σ → St → Out ρ} {Q : Exit → Act → World → Prop}
    (hQ : ∀ x s st a w, x ≠ .normal → ConcH H F M0 w0 s st a w → k x s st = fin → Q x.exit' a w) (hnext : ∀ s st a w, ConcH H F M0 w0 s st a w → vhq P H Φ hints N c2 (subL 1 T) k s st = fin → c3.wpIn (fen none) n P Q a w)
    {s : H.σ} {st : St} {a : Act} {w : World} (hc : ConcH H F M0 w0 s st a w) (h : vhq P H Φ hints N (.seq c1 c2) T k s st = fin) : (Code.seq c1 c3).wpIn (fen none) n P Q a w := by
  unfold vhq pickQ at h
  split at h
  · exact absurd rfl hT0
  rw [hT1] at h
  refine wpIn_seq (vhq_ok hΦ hm hints N hf hr c1 _ hT.seq.1 F M0 w0 n hI hpl _ _ ?_ s st a w hc h)
  intro x s st a w hc hx
  cases x with
  | normal => exact hnext s st a w hc hx
  | exit i => exact hQ (.exit i) s st a w (by simp) hc hx
  | ret => exact hQ .ret s st a w (by simp) hc hx
end
theorem allQ113s : AllQ Tryz.prog HNow C113 T113s := by
  have hΨ : ∀ (s : NW) sp, sp ∈ specsQ113s s → CallH Tryz.prog HNow s sp := fun s sp hs => by
    simp only [specsQ113s, List.mem_cons, List.not_mem_nil, or_false] at hs
    rcases hs with rfl | rfl | rfl
    · exact .inl c114a
    · exact .inr ⟨rfl, c115r s⟩
    · exact .inl c116
  exact allQ_cons (c' := .region 6 r113_6 false) (by kernel_rfl) (regQ_ok (fun s g sp hs => hΨ s sp (List.mem_filter.1 hs).1) hints113s D113_6_ok)
    (allQ_cons (c' := .region 13 r113_13 true) (by kernel_rfl) (regAnyQ_ok mixed (fun s g sp hs => hΨ s sp (List.mem_filter.1 hs).1) hints113s (fun _ h => by cases h)) allQ_nil)
theorem all113s : ∀ sp ∈ specs113s, Contract Tryz.prog sp := fun sp hs => by
  simp only [specs113s, List.mem_cons, List.not_mem_nil, or_false] at hs
  rcases hs with rfl | rfl
  · exact c114a
  · exact c116
theorem seg113_wp {row : Int} {left : List Int} {yv v : Value} {lists : LLI} {sh : SHT} {pf : Value} {cands : List Int} {len i : Int} {now : List Int} {r : Option (List Int) × List Int} (N : Nat) (h : S113 N row left yv v lists sh pf cands len i now = .ret r)
    {F : Nat → Prop} {M0 : Base} {w0 : World} {n : Nat} (hI : ∀ w, Fr F w0 w → Inv.I Tryz.prog w) (hpl : ∀ j v, M0.pin j = some v → False) {Q : Exit → Act → World → Prop} {a : Act} {w : World} (hc : ConcH HNow F M0 w0 (v, now) (st113 row left yv v lists sh pf cands len i) a w)
    (hN : ∀ (s : NW) st a' w' xs f, r = (some xs, s.2) → ConcH HNow F M0 w0 s st a' w' → get st 12 = .arr (.int .i64) xs f → kpS row left yv v lists sh pf cands len i s st = true → (at113 [1, 1, 1, 1]).wpIn (fen none) n Tryz.prog Q a' w')
    (hE : ∀ (s : NW) st a' w', r = (none, s.2) → ConcH HNow F M0 w0 s st a' w' → kpS row left yv v lists sh pf cands len i s st = true → Q (.exit 1) a' w') : (at113 []).wpIn (fen none) n Tryz.prog Q a w := by
  have h0 := (s113 N row left yv v lists sh pf cands len i now).trans h
  have hf : (Out.ret r) ≠ .fail := by simp
  have hr : ∀ p, (Out.ret r) ≠ .pan p := by simp
  have hQ : ∀ (x : X) (s : HNow.σ) (st : St) (a' : Act) (w' : World), x ≠ .normal → ConcH HNow F M0 w0 s st a' w' → k113 row left yv v lists sh pf cands len i x s st = .ret r → Q x.exit' a' w' := by
    intro x s st a' w' hx hc' hk
    unfold k113 at hk
    split at hk
    · exact absurd rfl hx
    · cases hkp : kpS row left yv v lists sh pf cands len i s st with
      | false => rw [hkp] at hk; cases hk
      | true => rw [hkp] at hk; exact hE s st a' w' (by cases hk; rfl) hc' hkp
    · cases hk
  have hNn : ∀ (s : HNow.σ) (st : St) (a' : Act) (w' : World), ConcH HNow F M0 w0 s st a' w' → k113 row left yv v lists sh pf cands len i .normal s st = .ret r → (at113 [1, 1, 1, 1]).wpIn (fen none) n Tryz.prog Q a' w' := by
    intro s st a' w' hc' hk
    unfold k113 at hk
    dsimp only at hk
    split at hk
    · rename_i xs f e12
      cases hkp : kpS row left yv v lists sh pf cands len i s st with
      | false => rw [hkp] at hk; cases hk
      | true => rw [hkp] at hk; exact hN s st a' w' xs f (by cases hk; rfl) hc' e12 hkp
    · cases hk
  rw [at113_eq]
  have hT := allQ113s
  unfold C113 at h0 hT
  refine chain_seq (phi_ok all113s) mixed hints113s N hf hr hT (by unfold T113s; simp) (by kernel_rfl) hI hpl hQ (fun s st a w hc h => ?_) hc h0
  refine chain_seq (phi_ok all113s) mixed hints113s N hf hr hT.seq.2 (by unfold T113s; simp [subL]) (by kernel_rfl) hI hpl hQ (fun s st a w hc h => ?_) hc h
  refine chain_seq (phi_ok all113s) mixed hints113s N hf hr hT.seq.2.seq.2 (by unfold T113s; simp [subL]) (by kernel_rfl) hI hpl hQ (fun s st a w hc h => ?_) hc h
  refine wpIn_seq (vhq_ok (phi_ok all113s) mixed hints113s N hf hr _ _ hT.seq.2.seq.2.seq.2 F M0 w0 n hI hpl _ _ ?_ s st a w hc h)
  intro x s st a w hc hx
  cases x with
  | normal => exact hNn s st a w hc hx
  | exit i => exact hQ (.exit i) s st a w (by simp) hc hx
  | ret => exact hQ .ret s st a w (by simp) hc hx
end Go.V
namespace Go.V
open Go.RowKit (Below)
def IterStepB (B : Nat → Prop) (W W1 W2 : World) : Prop := Fr (fun k => k < W.heap.size ∧ ¬ B k) W1 W2 ∧ ∀ (k : Nat) (ob : Obj), ¬ B k → W1.heap[k]? = some ob → ob.isCells = true → W2.heap[k]? = some ob
section
variable {P : Program} [Inv P] {Φ : Nat → List Spec} {M0 : Base} {F : Nat → Prop} {w0 : World} {M : Mut} {st st' : St} {a : Act} {w : World} {o : Oper} {ρ : Type}
theorem Good.cellsB {B : Nat → Prop} (h : Good M0 F M st a w) (hs : NoSit st) {w' : World} (hBM : ∀ b, B b → ∀ o, M b o) (hBo : ∀ i k b, owns st a w i k b → ¬ B b) (hsz : w.heap.size ≤ w'.heap.size) (hk : ∀ (k : Nat) (ob : Obj), ¬ B k → w.heap[k]? = some ob → ob.isCells = true → w'.heap[k]? = some ob)
    (hd : Marks M0.dm w' a.defers) : Good M0 F M st a w' := by
  have hst : Stable M w M w' := fun b o v e hn => by
    have hb : ¬ B b := fun hb => hn (hBM b hb o)
    obtain ⟨ob, e1, e2⟩ := cells_of_cell e
    exact ⟨(World.cell?_of_block (a := ⟨b, o, none⟩) (by rw [hk b ob hb e1 e2, e1])).trans e, hn⟩
  have ho : ∀ i k b, owns st a w i k b → w'.heap[b]? = w.heap[b]? := fun i k b ho => by
    obtain ⟨ob, e1, e2⟩ := owns_cells h hs ho
    rw [hk b ob (hBo i k b ho) e1 e2, e1]
  have hk' : ∀ i b, owns st a w i none b → w'.heap[b]? = w.heap[b]? := fun i b h => ho i none b h
  exact ⟨hd, h.size, fun b hb => Nat.lt_of_lt_of_le (h.room b hb) hsz, h.base, h.up, fun b o hm => Nat.lt_of_lt_of_le (h.lt b o hm) hsz, h.down,
    fun i => SlotOK.keep hst (turn_world hk') rfl rfl (h.slot i) fun k b hb => ⟨ho i k b hb, fun _ h => h⟩,
    fun i k j l b h1 h2 => h.one i k j l b (owns_world hk' h1) (owns_world hk' h2), fun i k b h1 => h.new i k b (owns_world hk' h1), h.keep.trans hst, h.pin, h.dm⟩
end
end Go.V
namespace Go.V
open Go.RowKit (Below)
def IterP (P : Program) [Inv P] (v : Value) (e : Ty) (ys : List e.den) (M : Mut) (w : World) : Prop :=
  ∃ g fs pc, v = .func (.func g) fs pc ∧ enters P g = true ∧
    ∀ (n l : Nat) (R : Nat → Prop) (J : (Nat → Prop) → Nat → Mut → World → Prop) (Jx : (Nat → Prop) → World → Prop) (W : World) (N0 : Mut),
      Stable M w N0 W → w.heap.size ≤ W.heap.size → Inv.I P W → (∀ b o, N0 b o → b < W.heap.size) → (∀ b, R b → b < W.heap.size ∧ ∀ ob, W.heap[b]? = some ob → ob.isCells = false) →
      (∀ B i M1 W1, J B i M1 W1 → Inv.I P W1) → (∀ B i M1 W1 W2, J B i M1 W1 → IterStepB B W W1 W2 → J B i M1 W2) → (∀ B W1 W2, Jx B W1 → IterStepB B W W1 W2 → Jx B W2) →
      (∀ B i M1 W1 u y, J B i M1 W1 → ys[i]? = some y → RepV M1 W1 e u y → ∃ fn tmps assign body, (Instr.yield l #[u]).run P W1 = .ok (.round l fn tmps assign body) W1 ∧
        RoundIn Fence.wide n P l fn tmps assign body W1 fun r W2 =>
          (r = .returned (.bool true) ∧ ∃ M2, J B (i + 1) M2 W2 ∧ RoundKeeps R M1 W1 M2 W2 ∧ ∀ b, B b → W2.heap[b]? = W1.heap[b]?) ∨ (r = .returned (.bool false) ∧ Jx B W2 ∧ ∃ M2, RoundKeeps R M1 W1 M2 W2)) →
      (∀ (B : Nat → Prop) W', IterStepB (fun _ => False) W W W' → (∀ b, B b → W.heap.size ≤ b ∧ ∃ ob : Obj, W'.heap[b]? = some ob ∧ ob.isCells = true) → J B 0 (fun b o => N0 b o ∨ B b) W') →
      Calls P g (fs ++ #[.func (.yield l) #[] #[]] ++ pc) W fun r W' => (∃ u, r = .returned u) ∧ ((∃ B M1, J B ys.length M1 W') ∨ ∃ B, Jx B W')
def withB (M0 : Base) (B : Nat → Prop) : Base := { M0 with mu := fun b o => M0.mu b o ∨ B b }
section
variable {P : Program} [Inv P] {Φ : Nat → List Spec} {M0 : Base} {F : Nat → Prop} {w0 : World} {M : Mut} {st st' : St} {a : Act} {w : World} {o : Oper} {ρ : Type}
end
end Go.V
namespace Go.V
open Go.RowKit (Below)
section
variable {ρ : Type} (P : Program) (H : Hole) (Φ : Nat → List Spec) (hints : List (Nat × List Nat)) (N : Nat)
def vhr : Code → List (List Nat × HdH H) → (X → H.σ → St → Out ρ) → H.σ → St → Out ρ
  | .seq a b, T, k, s, st => pickQ T (vexec P Φ hints N (.seq a b) (some []) (fun x st => k x s st) st) (fun E => E.run k s st) (vhr a (subL 0 T) (fun e s st => match e with | .normal => vhr b (subL 1 T) k s st | e => k e s st) s st)
  | .cond c a b, T, k, s, st => pickQ T (vexec P Φ hints N (.cond c a b) (some []) (fun x st => k x s st) st) (fun E => E.run k s st)
    (match opnd st c with
     | .d .bool v => (match v with
       | true => vhr a (subL 0 T) k s (setC c st true)
       | false => vhr b (subL 1 T) k s (setC c st false))
     | _ => .fail)
  | .block id b, T, k, s, st => pickQ T (vexec P Φ hints N (.block id b) (some []) (fun x st => k x s st) st) (fun E => E.run k s st) (vhr b (subL 0 T) (fun e s st => match e with
      | .exit i => if i = id then k .normal s st else k (.exit i) s st
      | e => k e s st) s st)
  | .loop b, T, k, s, st => pickQ T (vexec P Φ hints N (.loop b) (some []) (fun x st => k x s st) st) (fun E => E.run k s st) (iterQ (fun k' s st => vhr b (subL 0 T) k' s st) (maskOf hints b) k N s (maskOf hints b st))
  | c, T, k, s, st => pickQ T (vexec P Φ hints N c (some []) (fun x st => k x s st) st) (fun E => E.run k s st) .fail
end
section
variable {P : Program} [Inv P] {H : Hole} {Φ : Nat → List Spec} {ρ : Type}
def EOKR (P : Program) [Inv P] (H : Hole) (c : Code) (E : {ρ : Type} → (X → H.σ → St → Out ρ) → H.σ → St → Out ρ) : Prop :=
  ∀ {ρ : Type} {fin : Out ρ} (_ : fin ≠ .fail) (_ : ∀ p, fin ≠ .pan p) (F : Nat → Prop) (M0 : Base) (w0 : World) (ro : Option Nat) (n : Nat), (∀ w, Fr F w0 w → Inv.I P w) → (∀ j v, M0.pin j = some v → False) →
    ∀ (k : X → H.σ → St → Out ρ) (Q : Exit → Act → World → Prop),
      (∀ x s st a w, ConcH H F M0 w0 s st a w → k x s st = fin → Q x.exit' a w) → ∀ s st a w, ConcH H F M0 w0 s st a w → E k s st = fin → c.wpIn (fen ro) n P Q a w
def AllR (P : Program) [Inv P] (H : Hole) (c : Code) (T : List (List Nat × HdH H)) : Prop := ∀ e ∈ T, ∃ c', codeAt e.1 c = some c' ∧ EOKR P H c' (fun {ρ} k s st => e.2.run (ρ := ρ) k s st)
theorem allR_nil {c : Code} : AllR P H c [] := fun _ h => absurd h List.not_mem_nil
theorem allR_cons {c c' : Code} {p : List Nat} {E : HdH H} {T : List (List Nat × HdH H)} (h1 : codeAt p c = some c') (h2 : EOKR P H c' (fun {ρ} k s st => E.run (ρ := ρ) k s st)) (hT : AllR P H c T) : AllR P H c ((p, E) :: T) := by
  intro e he
  rcases List.mem_cons.1 he with rfl | he
  · exact ⟨c', h1, h2⟩
  · exact hT e he
theorem AllR.seq {a b : Code} {T : List (List Nat × HdH H)} (h : AllR P H (.seq a b) T) : AllR P H a (subL 0 T) ∧ AllR P H b (subL 1 T) :=
  ⟨fun e he => h _ (mem_subL he), fun e he => h _ (mem_subL he)⟩
theorem AllR.cond {c : Operand} {a b : Code} {T : List (List Nat × HdH H)} (h : AllR P H (.cond c a b) T) : AllR P H a (subL 0 T) ∧ AllR P H b (subL 1 T) :=
  ⟨fun e he => h _ (mem_subL he), fun e he => h _ (mem_subL he)⟩
def HOKR (P : Program) [Inv P] (H : Hole) (Φ : Nat → List Spec) (hints : List (Nat × List Nat)) (N : Nat) {ρ : Type} (fin : Out ρ) (c : Code) : Prop :=
  ∀ (T : List (List Nat × HdH H)), AllR P H c T → ∀ (F : Nat → Prop) (M0 : Base) (w0 : World) (ro : Option Nat) (n : Nat), (∀ w, Fr F w0 w → Inv.I P w) → (∀ j v, M0.pin j = some v → False) →
    ∀ (k : X → H.σ → St → Out ρ) (Q : Exit → Act → World → Prop),
      (∀ x s st a w, ConcH H F M0 w0 s st a w → k x s st = fin → Q x.exit' a w) → ∀ s st a w, ConcH H F M0 w0 s st a w → vhr P H Φ hints N c T k s st = fin → c.wpIn (fen ro) n P Q a w
theorem pickR_ok (hΦ : ∀ g sp, sp ∈ Φ g → Contract P sp) (hm : P.follows .mixedOrders = true) (hints : List (Nat × List Nat)) (N : Nat) {fin : Out ρ} (hf : fin ≠ .fail) (hr : ∀ p, fin ≠ .pan p) {c : Code} {T : List (List Nat × HdH H)} (hT : AllR P H c T) {F : Nat → Prop} {M0 : Base} {w0 : World} {ro : Option Nat} {n : Nat}
    (hI : ∀ w, Fr F w0 w → Inv.I P w) (hpl : ∀ j v, M0.pin j = some v → False) {k : X → H.σ → St → Out ρ} {Q : Exit → Act → World → Prop}
    (hQ : ∀ x s st a w, ConcH H F M0 w0 s st a w → k x s st = fin → Q x.exit' a w) {s : H.σ} {st : St} {a : Act} {w : World} (hc : ConcH H F M0 w0 s st a w) {new : Out ρ} (h : pickQ T (vexec P Φ hints N c (some []) (fun x st => k x s st) st) (fun E => E.run k s st) new = fin)
    (hnew : new = fin → c.wpIn (fen ro) n P Q a w) : c.wpIn (fen ro) n P Q a w := by
  unfold pickQ at h
  split at h
  · obtain ⟨N0, hpn, hcl, hback⟩ := hc.lift
    exact code_ok hΦ hm hints N hf c _ _ w (some []) ro n (fun h => by cases h) (hc.inv hI) (fun j v hj => (hpl j v (hpn j v hj)).elim) (fun x st => k x s st) Q (fun _ p q hp => absurd hp (hr p)) (fun x st a w hc h => hQ x s st a w (hback _ _ _ hc) h) st a w hcl h
  · split at h
    · rename_i E hE
      obtain ⟨c', e1, e2⟩ := hT _ (mem_hereL hE)
      cases e1
      exact e2 hf hr F M0 w0 ro n hI hpl k Q hQ s st a w hc h
    · exact hnew h
theorem vhr_ok (hΦ : ∀ g sp, sp ∈ Φ g → Contract P sp) (hm : P.follows .mixedOrders = true) (hints : List (Nat × List Nat)) (N : Nat) {fin : Out ρ} (hf : fin ≠ .fail) (hr : ∀ p, fin ≠ .pan p) : ∀ (c : Code), HOKR P H Φ hints N fin c := by
  intro c
  induction c with
  | seq x y ihx ihy =>
    intro T hT F M0 w0 ro n hI hpl k Q hQ s st a w hc h
    unfold vhr at h
    refine pickR_ok hΦ hm hints N hf hr hT hI hpl hQ hc h fun h => ?_
    refine wpIn_seq (ihx _ hT.seq.1 F M0 w0 ro n hI hpl _ _ ?_ s st a w hc h)
    intro e s st a w hc h
    cases e with
    | normal => exact ihy _ hT.seq.2 F M0 w0 ro n hI hpl k Q hQ s st a w hc h
    | exit i => exact hQ (.exit i) s st a w hc h
    | ret => exact hQ .ret s st a w hc h
  | cond c x y ihx ihy =>
    intro T hT F M0 w0 ro n hI hpl k Q hQ s st a w hc h
    unfold vhr at h
    refine pickR_ok hΦ hm hints N hf hr hT hI hpl hQ hc h fun h => ?_
    split at h
    rotate_left
    · exact absurd h.symm hf
    rename_i v e
    obtain ⟨hb, M, hg⟩ := id hc
    refine wpIn_cond (slot_bool (e ▸ opnd_ok hg.2.1 c)) ?_
    cases v with
    | true =>
      dsimp only at h
      rw [setC_self e] at h
      exact ihx _ hT.cond.1 F M0 w0 ro n hI hpl k Q hQ s st a w hc h
    | false =>
      dsimp only at h
      rw [setC_self e] at h
      exact ihy _ hT.cond.2 F M0 w0 ro n hI hpl k Q hQ s st a w hc h
  | block id b ih =>
    intro T hT F M0 w0 ro n hI hpl k Q hQ s st a w hc h
    unfold vhr at h
    refine pickR_ok hΦ hm hints N hf hr hT hI hpl hQ hc h fun h => ?_
    refine wpIn_block (ih _ (fun e he => hT _ (mem_subL he)) F M0 w0 ro n hI hpl _ _ ?_ s st a w hc h)
    intro x s st a w hc h
    cases x with
    | normal => exact hQ .normal s st a w hc h
    | ret => exact hQ .ret s st a w hc h
    | exit i =>
      show if i = id then _ else _
      dsimp only at h
      split
      · rename_i e; rw [if_pos e] at h; exact hQ .normal s st a w hc h
      · rename_i e; rw [if_neg e] at h; exact hQ (.exit i) s st a w hc h
  | loop b ih =>
    intro T hT F M0 w0 ro n hI hpl k Q hQ s st a w hc h
    unfold vhr at h
    refine pickR_ok hΦ hm hints N hf hr hT hI hpl hQ hc h fun h => ?_
    have key : ∀ m s st a w, ConcH H F M0 w0 s st a w → iterQ (fun k' s st => vhr P H Φ hints N b (subL 0 T) k' s st) (Go.V.maskOf hints b) k m s st = fin → Code.roundsIn (fen ro) n P b Q m a w := by
      intro m
      induction m with
      | zero => intro s st a w _ h; exact absurd h.symm hf
      | succ m ihm =>
        intro s st a w hc h
        refine ih _ (fun e he => hT _ (mem_subL he)) F M0 w0 ro n hI hpl _ _ ?_ s st a w hc h
        intro x s st a w hc h
        cases x with
        | normal => exact ihm s _ a w (hc.maskOf hpl) h
        | exit i => exact hQ (.exit i) s st a w hc h
        | ret => exact hQ .ret s st a w hc h
    exact wpIn_loop_rounds N (key N s _ a w (hc.maskOf hpl) h)
  | _ =>
    intro T hT F M0 w0 ro n hI hpl k Q hQ s st a w hc h
    unfold vhr at h
    exact pickR_ok hΦ hm hints N hf hr hT hI hpl hQ hc h fun h => absurd h.symm hf
theorem decR_wp {s : H.σ} (hΦ : ∀ g sp, sp ∈ Φ g → CallH P H s sp) {F : Nat → Prop} {M0 : Base} {w0 : World} (hI : ∀ w, Fr F w0 w → Inv.I P w) {ro : Option Nat} {n : Nat} {st : St} {a : Act} {w : World} {o : Oper} (hc : ConcH H F M0 w0 s st a w) {ops : Array Oper} {i : Nat} (hi : ops[i]? = some o) {g : Nat} {wr : List (Nat × S)} (h : Dec P Φ ops o st g wr)
    {K : Act → World → Prop} {Q : Exit → Act → World → Prop} (hK : ∀ a' w', ConcH H F M0 w0 s (app wr st) a' w' → K a' w') : wpOpIn (fen ro) n P ops Q i K a w := by
  obtain ⟨hnb, b, hw, hrest⟩ := h
  obtain ⟨N0, hpn, ⟨hb, M, hg⟩, hback⟩ := hc.lift
  have hI' := hc.inv hI
  have hwant := wantS_ok hg hw
  unfold wpOpIn
  simp only [hi]
  rw [hwant]
  cases b with
  | false =>
    rw [if_neg (by simp)]
    obtain ⟨_, rfl⟩ := hrest
    exact ⟨fun f _ => fen_fn ro f, hK _ _ (hback _ _ _ ⟨hb, M, hg.fin (nobox_of hnb) rfl ⟨[], rfl, rfl⟩⟩)⟩
  | true =>
    rw [if_pos rfl]
    rcases hrest.2 with ⟨y, r, hy, hr, rfl⟩ | h
    · obtain ⟨h1, hk, e, t1, e2, he, xs, z, ys, hot, v1, v2, g1, g2, g3, g4, g5, g6, g7⟩ := op_take hg hy
      rcases hΦ _ _ h1 with hct | ⟨hk', _⟩
      rotate_left
      · rw [hk] at hk'; cases hk'
      unfold Contract at hct
      rw [hk] at hct
      have harr : ArrAt M w e (tm a y.2.2) xs := by have := hg.slot y.2.2; rw [g1] at this; exact this
      have hct := hct e t1 e2 he xs z ys M w (tm a y.2.2) v1 v2 r (hI' _ hb) harr g4 g5 g6 g7 hg.lt (fun x hx => by
        have : x = y.2.1 := takeX_inj he (hx.trans g2.symm)
        rw [this]; exact hr)
      refine ⟨fun f _ => fen_fn ro f, ?_⟩
      rw [take_sem hy, g3]
      refine ⟨fun hd => by rw [fen_depth] at hd; simp at hd, calls_fen (hct.mono fun e w' he => ?_)⟩
      obtain ⟨v, rfl, hb', M', m1, m2, m3, m4⟩ := he
      obtain ⟨f1, f2⟩ := hg.take hnb g1 hb' m1 m2 m3 m4
      exact hK _ _ (hback _ _ _ ⟨hb.trans f1, M', f2⟩)
    have hne : vpre P Φ o st ≠ .bad := by
      rcases h with ⟨rd, h⟩ | ⟨i, n, rd, f, j, h, _⟩ | ⟨sp, x, rd, r, h, _⟩ <;> rw [h] <;> simp
    refine ⟨fun f _ => fen_fn ro f, ?_⟩
    rw [semAt_of hne]
    have fin : ORun P (fun b => F b ∨ H.hb s w b) N0 w o a w (app wr st) → o.uponIn (fen ro) n P a K Q ((execOp a.eval o).run P w) := by
      rintro ⟨v, w', hr, hb', M', hg'⟩
      rcases hr with hr | ⟨hr, rfl⟩
      · rw [hr]; exact hK _ _ (hback _ _ _ ⟨hb', M', hg'⟩)
      · rw [hr]; exact hK _ _ (hback _ _ _ ⟨hb', M', hg'⟩)
    rcases h with ⟨rd, h⟩ | ⟨i, n, rd, f, j, h, hj, hij, rfl⟩ | ⟨sp, x, rd, r, h, hr, rfl⟩
    · exact fin (op_eff hg hb (nobox_of hnb) h rfl)
    · exact fin (op_cse hg hb (nobox_of hnb) h hj hij)
    · obtain ⟨h1, hk, vs, h2, h3⟩ := op_call hg h
      rcases hΦ _ _ h1 with hct | ⟨_, hct⟩
      · unfold Contract at hct
        rw [hk] at hct
        have hct := hct x M w vs (hI' _ hb) h3 hg.lt
        rw [hr] at hct
        rw [h2]
        refine ⟨fun hd => by rw [fen_depth] at hd; simp at hd, calls_fen (hct.mono fun e w' he => ?_)⟩
        obtain ⟨v, rfl, hb', hres⟩ := he
        obtain ⟨M', hg'⟩ := hg.res hnb hb' hres
        exact hK _ _ (hback _ _ _ ⟨hb.trans (Fr.below hb' hg.room), M', hg'⟩)
      · obtain ⟨hfr0, M2, hG⟩ := id hc
        obtain ⟨h1', hk', vs', h2', h3'⟩ := op_call hG.2.1 h
        have hct := hct x M2 w vs' r (hI' _ hb) hG.1 h3' hG.2.1.lt (fun b hB => (hG.2.2 b hB).2.1) hr
        rw [h2']
        refine ⟨fun hd => by rw [fen_depth] at hd; simp at hd, calls_fen (hct.mono fun e w' he => ?_)⟩
        obtain ⟨v, rfl, hf', hs', hres⟩ := he
        obtain ⟨e1, M', hg'⟩ := hG.res hnb hf' hs' hres
        exact hK _ _ ⟨hfr0.trans e1, M', hg'⟩
def HandR (P : Program) [Inv P] (H : Hole) (ops : Array Oper) (i c : Nat) (g : H.σ → St → Bool × Outs H) : Prop :=
  ∀ (F : Nat → Prop) (M0 : Base) (w0 : World) (ro : Option Nat) (n : Nat), (∀ w, Fr F w0 w → Inv.I P w) → (∀ j v, M0.pin j = some v → False) →
    ∀ (Q : Exit → Act → World → Prop) (rest : List Nat) s st a w, ConcH H F M0 w0 s st a w → (g s st).1 = true → (∀ z, (g s st).2.mem z → ∀ a' w', ConcH H F M0 w0 z.1 z.2 a' w' → wpOpsIn (fen ro) n P ops Q rest a' w') →
      wpOpsIn (fen ro) n P ops Q (List.range' i (c + 1) ++ rest) a w
def HandOpR (P : Program) [Inv P] (H : Hole) (ops : Array Oper) (i : Nat) (g : H.σ → St → Bool × Outs H) : Prop :=
  ∀ (F : Nat → Prop) (M0 : Base) (w0 : World) (ro : Option Nat) (n : Nat), (∀ w, Fr F w0 w → Inv.I P w) → (∀ j v, M0.pin j = some v → False) →
    ∀ (Q : Exit → Act → World → Prop) (K : Act → World → Prop) s st a w, ConcH H F M0 w0 s st a w → (g s st).1 = true → (∀ z, (g s st).2.mem z → ∀ a' w', ConcH H F M0 w0 z.1 z.2 a' w' → K a' w') →
      wpOpIn (fen ro) n P ops Q i K a w
theorem HandOpR.one {ops : Array Oper} {i : Nat} {g : H.σ → St → Bool × Outs H} (h : HandOpR P H ops i g) : HandR P H ops i 0 g := by
  intro F M0 w0 ro n hI hpl Q rest s st a w hc h1 hK
  show wpOpsIn (fen ro) n P ops Q (i :: rest) a w
  rw [wpOpsIn_cons]
  exact h F M0 w0 ro n hI hpl Q _ s st a w hc h1 hK
theorem hlexR_seq {Ψ : H.σ → Nat → List Spec} (hΨ : ∀ s g sp, sp ∈ Ψ s g → CallH P H s sp) {F : Nat → Prop} {M0 : Base} {w0 : World} (hI : ∀ w, Fr F w0 w → Inv.I P w) (hpl : ∀ j v, M0.pin j = some v → False) {ro : Option Nat} {n : Nat} {ops : Array Oper} {D : Nat → Option (Nat × (H.σ → St → Bool × Outs H))} {k : H.σ → St → Out ρ} {fin : Out ρ} (hf : fin ≠ .fail) {Q : Exit → Act → World → Prop}
    (hD : ∀ i y, D i = some y → HandR P H ops i y.1 y.2)
    (hk : ∀ s st a w, ConcH H F M0 w0 s st a w → k s st = fin → Q .normal a w) :
    ∀ (m : Nat) (l : List Oper), l.length ≤ m → ∀ (i : Nat) (s : H.σ) (st : St) (a : Act) (w : World), (∀ j, l[j]? = ops[i + j]?) → ConcH H F M0 w0 s st a w → hlexQ P H Ψ D ops k l i 0 s st = fin → wpOpsIn (fen ro) n P ops Q (List.range' i l.length) a w := by
  intro m
  induction m with
  | zero =>
    intro l hm i s st a w hl hc h
    obtain rfl : l = [] := List.eq_nil_of_length_eq_zero (by omega)
    exact hk s st a w hc h
  | succ m ih =>
    intro l hm i s st a w hl hc h
    cases l with
    | nil => exact hk s st a w hc h
    | cons o l =>
      have hm' : l.length ≤ m := by simpa using hm
      have hl' : ∀ j, l[j]? = ops[i + 1 + j]? := fun j => by have := hl (j + 1); simpa [Nat.add_assoc, Nat.add_comm 1 j] using this
      have hi : ops[i]? = some o := by simpa using (hl 0).symm
      unfold hlexQ at h
      cases hy : D i with
      | none =>
        rw [hy] at h
        dsimp only at h
        simp only [List.length_cons, List.range'_succ]
        rw [wpOpsIn_cons]
        rcases vop_ok hf h with ⟨g, wr, hd, hk'⟩ | ⟨g, p, hp, _, _, hpn⟩
        · exact decR_wp (hΨ s) hI hc hi hd fun a' w' hc' => ih l hm' (i + 1) s _ a' w' hl' hc' hk'
        · exact absurd hp.symm hf
      | some y =>
        rw [hy] at h
        dsimp only at h
        cases hcd : (y.2 s st).1 with
        | false => rw [hcd] at h; exact absurd h.symm hf
        | true =>
        rw [hcd] at h
        obtain ⟨⟨z0, hz0⟩, hall⟩ := outsOf_ok hf (show outsOf _ _ = fin from h)
        have hlen := (hlexQ_skip hf l (i + 1) y.1 z0.1 z0.2 (hall z0 hz0)).1
        have e : List.range' i (o :: l).length = List.range' i (y.1 + 1) ++ List.range' (i + 1 + y.1) (l.drop y.1).length := by
          have e1 : (o :: l).length = (y.1 + 1) + (l.drop y.1).length := by rw [List.length_cons, List.length_drop]; omega
          have e2 : i + 1 + y.1 = i + 1 * (y.1 + 1) := by omega
          rw [e1, e2, List.range'_append]
        rw [e]
        refine hD i y hy F M0 w0 ro n hI hpl Q _ s st a w hc hcd fun z hz a' w' hc' => ih _ (by rw [List.length_drop]; omega) _ z.1 z.2 a' w' (fun j => ?_) hc' (hlexQ_skip hf l (i + 1) y.1 z.1 z.2 (hall z hz)).2
        rw [List.getElem?_drop, hl']
        congr 1
        omega
theorem regR_ok {Ψ : H.σ → Nat → List Spec} (hΨ : ∀ s g sp, sp ∈ Ψ s g → CallH P H s sp) (hints : List (Nat × List Nat)) {D : Nat → Option (Nat × (H.σ → St → Bool × Outs H))} {id : Nat} {ops : Array Oper} (hD : ∀ i y, D i = some y → HandR P H ops i y.1 y.2) :
    EOKR P H (.region id ops false) (fun {ρ} k s st => regQ P H Ψ hints D id ops k s st) := by
  intro ρ fin hf hr F M0 w0 ro n hI hpl k Q hQ s st a w hc h
  obtain ⟨N0, hpn, hcl, hback⟩ := hc.lift
  have hc := hback _ _ _ (hcl.frz (P := P) (hints := hints) (id := id) fun j v hj => (hpl j v (hpn j v hj)).elim)
  refine wpIn_region ?_
  have := hlexR_seq (F := F) (M0 := M0) (w0 := w0) (ro := ro) (n := n) (ops := ops) hΨ hI hpl hf (Q := Q) hD (fun s st a w hc h => hQ .normal s st a w hc h) _ ops.toList (Nat.le_refl _) 0 s _ a w (fun j => by simp) hc h
  rw [List.range_eq_range']
  simpa using this
end
end Go.V
