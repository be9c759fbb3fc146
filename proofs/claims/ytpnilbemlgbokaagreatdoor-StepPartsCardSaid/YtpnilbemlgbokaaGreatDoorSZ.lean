/- A part of the proof of a law of the step table. -/
import Derived.Test.YtpnilbemlgbokaaGreatDoorSY
set_option linter.all false
/- step.Read: its attempt, by hand. -/
namespace Go.V
open Go.Proofs
open Go.RowKit (Below)

noncomputable def reg116 : Array Oper := match findRegion 0 (bodyOf Tryz.f116) with | some o => o | none => #[]
theorem info116 : reg116.toList.map opInfo = [
  (some 2, .load 9 (.tmp 0), none),
  (some 3, .call { callee := .value (.func 117), args := #[.tmp 2], argTypes := #[9] }, none),
  (none, .store 25 (.tmp 1) (.tmp 3), none)] := by kernel_rfl
theorem size116 : reg116.size = 3 := by kernel_rfl
theorem body116 : Tryz.f116.body = some (.region 0 reg116 false) := by kernel_rfl
theorem info_at116 {i : Nat} {x : Option Tmp × Op × Option (Nat × Bool)} (hx : (reg116.toList.map opInfo)[i]? = some x) : ∃ o, reg116[i]? = some o ∧ o.dst = x.1 ∧ o.op = x.2.1 ∧ o.guard = x.2.2 := by
  rw [List.getElem?_map, Array.getElem?_toList] at hx
  cases h : reg116[i]? with
  | none => rw [h] at hx; cases hx
  | some o => rw [h] at hx; cases hx; exact ⟨o, rfl, rfl, rfl, rfl⟩

theorem opn_enter_pan {P : Program} [Inv P] {n : Nat} {ops : Array Oper} {Q : Exit → Act → World → Prop} {i : Nat} {o : Oper} {a : Act} {w w' : World} {K : Act → World → Prop} (hi : ops[i]? = some o) (hw : Region.wanted o (yielded ops a.tmps) = true) (hd : ∀ c, o.op ≠ .defer c) {f : FuncId} {args : Array Value} (hr : (execOp a.eval o).run P w = .ok (.enter f args) w')
    (hK : Calls P f args w' fun e w2 => ∃ c, e = .panicked c ∧ Q (.panic c) a w2) : wpOpIn (fen none) n P ops Q i K a w := by
  unfold wpOpIn
  simp only [hi]
  rw [hw, if_pos rfl]
  refine ⟨fun f _ => fen_fn none f, ?_⟩
  rw [Oper.semAt_eq _ _ _ fun c e => absurd e (hd c), hr]
  refine ⟨fun hd => (by rw [fen_depth] at hd; cases hd), calls_fen (hK.mono ?_)⟩
  rintro e w2 ⟨c, rfl, h⟩
  exact h

theorem ex_load9 {a : Act} {w : World} {o : Oper} (ho : o.op = .load 9 (.tmp 0)) {b : Nat} {s : ByteArray} (ht : tm a 0 = .pointer (some ⟨b, 0, none⟩)) (hh : w.cell? ⟨b, 0, none⟩ = some (.string s)) : (execOp a.eval o).run Tryz.prog w = .ok (.value (.string s)) w := by
  have e1 : a.eval (.tmp 0) = .pointer (some ⟨b, 0, none⟩) := ht
  simp only [execOp, ho, e1]
  simp [go_sem, hh]
theorem ex_call117 {a : Act} {w : World} {o : Oper} {v : Value} (ho : o.op = .call { callee := .value (.func 117), args := #[.tmp 2], argTypes := #[9] }) (h1 : tm a 2 = v) : (execOp a.eval o).run Tryz.prog w = .ok (.enter 117 #[v]) w := by
  have e1 : a.eval (.tmp 2) = v := h1
  have e4 : a.eval (.func 117) = .func (.func 117) #[] #[] := rfl
  have e3 := enters_run (P := Tryz.prog) (g := 117) (by kernel_rfl) #[v] w
  simp [execOp, ho, resolve, e1, e4, Deferred.ofValue, invoke, e3]
theorem ex_store116 {a : Act} {w : World} {o : Oper} (ho : o.op = .store 25 (.tmp 1) (.tmp 3)) {b T : Nat} {c0 c1 c2 v0 v1 v2 : Value} (h1 : tm a 1 = .pointer (some ⟨b, 0, none⟩)) (h3 : tm a 3 = .agg #[v0, v1, v2]) (hh : w.heap[b]? = some (.cells #[c0, c1, c2] T (0, 0)))
    (ho1 : ∀ v ∈ [v0, v1, v2], v.oneCell' = true) : (execOp a.eval o).run Tryz.prog w = .ok .skip (w.setRow b #[v0, v1, v2]) := by
  have e1 : a.eval (.tmp 1) = .pointer (some ⟨b, 0, none⟩) := h1
  have e3 : a.eval (.tmp 3) = .agg #[v0, v1, v2] := h3
  have hrun := run_storeVar (P := Tryz.prog) (n := 9) (T := 25) (t := STAB) (by kernel_rfl) (o := 0) (v := .agg #[v0, v1, v2]) rfl hh (by show 0 + 3 ≤ 3; omega) ho1
  simp only [execOp, ho, e1, e3, Instr.storeAt, Instr.sureAddr, Sem.run_bind, Sem.run_pure, Result.andThen_ok]
  rw [hrun]
  rfl

theorem read1_ret {w : World} {b1 b4 : Nat} {s : List UInt8} (h1 : w.cell? ⟨b1, 0, none⟩ = some (.string ⟨⟨s⟩⟩)) {R : Value → Value → Value → World → Prop}
    (h4 : ∀ v0 v1 v2 w', R v0 v1 v2 w' → (∃ c0 c1 c2 T4, w'.heap[b4]? = some (.cells #[c0, c1, c2] T4 (0, 0))) ∧ ∀ v ∈ [v0, v1, v2], v.oneCell' = true)
    (h : Calls Tryz.prog 117 #[.string ⟨⟨s⟩⟩] w fun e w' => ∃ v0 v1 v2, e = .returned (.agg #[v0, v1, v2]) ∧ R v0 v1 v2 w') :
    Calls Tryz.prog 116 #[.pointer (some ⟨b1, 0, none⟩), .pointer (some ⟨b4, 0, none⟩)] w fun e w' => (∃ u, e = .returned u) ∧ ∃ v0 v1 v2 w2, R v0 v1 v2 w2 ∧ w' = w2.setRow b4 #[v0, v1, v2] := by
  refine (callsIn_wide (n := 0)).1 (callsIn_of_wp Tryz.func116 body116 trivial (wpIn_region ?_))
  rw [size116]
  obtain ⟨o0, i0, d0, p0, q0⟩ := info_at116 (i := 0) (x := (some 2, .load 9 (.tmp 0), none)) (by rw [info116]; rfl)
  obtain ⟨o1, i1, d1, p1, q1⟩ := info_at116 (i := 1) (x := (some 3, .call { callee := .value (.func 117), args := #[.tmp 2], argTypes := #[9] }, none)) (by rw [info116]; rfl)
  obtain ⟨o2, i2, d2, p2, q2⟩ := info_at116 (i := 2) (x := (none, .store 25 (.tmp 1) (.tmp 3), none)) (by rw [info116]; rfl)
  show wpOpsIn (fen none) 0 Tryz.prog reg116 _ [0, 1, 2] _ w
  rw [Tryz.ntmps116, wpOpsIn_cons]
  refine opn_value i0 (wanted_none q0) (fun c h => by rw [p0] at h; cases h) (ex_load9 p0 rfl h1) ?_
  rw [d0, wpOpsIn_cons]
  refine opn_enter i1 (wanted_none q1) (fun c h => by rw [p1] at h; cases h) (ex_call117 p1 rfl) (h.mono ?_)
  rintro e w2 ⟨v0, v1, v2, rfl, hR⟩
  obtain ⟨⟨c0, c1, c2, T4, h4'⟩, h1'⟩ := h4 _ _ _ _ hR
  refine ⟨_, rfl, ?_⟩
  rw [d1, wpOpsIn_cons]
  refine opn_skipped i2 (wanted_none q2) (fun c h => by rw [p2] at h; cases h) (ex_store116 p2 rfl rfl h4' h1') ?_
  rw [d2]
  refine bodyPost_end (results_none rfl _ _ _) rfl ?_
  exact ⟨⟨_, rfl⟩, v0, v1, v2, w2, hR, rfl⟩

theorem read1_pan {w : World} {b1 b4 : Nat} {s : List UInt8} (h1 : w.cell? ⟨b1, 0, none⟩ = some (.string ⟨⟨s⟩⟩)) {R : List PanicEntry → World → Prop}
    (h : Calls Tryz.prog 117 #[.string ⟨⟨s⟩⟩] w fun e w' => ∃ c, e = .panicked c ∧ R c w') :
    Calls Tryz.prog 116 #[.pointer (some ⟨b1, 0, none⟩), .pointer (some ⟨b4, 0, none⟩)] w fun e w' => ∃ c, e = .panicked c ∧ R c w' := by
  refine (callsIn_wide (n := 0)).1 (callsIn_of_wp Tryz.func116 body116 trivial (wpIn_region ?_))
  rw [size116]
  obtain ⟨o0, i0, d0, p0, q0⟩ := info_at116 (i := 0) (x := (some 2, .load 9 (.tmp 0), none)) (by rw [info116]; rfl)
  obtain ⟨o1, i1, d1, p1, q1⟩ := info_at116 (i := 1) (x := (some 3, .call { callee := .value (.func 117), args := #[.tmp 2], argTypes := #[9] }, none)) (by rw [info116]; rfl)
  show wpOpsIn (fen none) 0 Tryz.prog reg116 _ [0, 1, 2] _ w
  rw [Tryz.ntmps116, wpOpsIn_cons]
  refine opn_value i0 (wanted_none q0) (fun c h => by rw [p0] at h; cases h) (ex_load9 p0 rfl h1) ?_
  rw [d0, wpOpsIn_cons]
  refine opn_enter_pan i1 (wanted_none q1) (fun c h => by rw [p1] at h; cases h) (ex_call117 p1 rfl) (h.mono ?_)
  rintro e w2 ⟨c, rfl, hR⟩
  exact ⟨c, rfl, rfl, c, rfl, hR⟩
end Go.V
