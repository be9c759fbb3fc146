/- A part of the proof of a law of the step table. -/
import Derived.Test.YtpnilbemlgbokaaGreatDoorS2
import Derived.Test.YtpnilbemlgbokaaGreatDoorSV
import Derived.Test.YtpnilbemlgbokaaGreatDoorVI
set_option linter.all false
namespace Go.V
open Go.Proofs
open Go.RowKit (Below)
noncomputable def reg6 : Array Oper := match findRegion 6 (bodyOf Tryz.f117) with | some o => o | none => #[]
theorem info6 : reg6.toList.map opInfo = [
  (some 37, .move (.tmp 5), none),
  (some 38, .move (.tmp 6), none),
  (some 39, .build 25 #[(2, .tmp 37), (1, .tmp 38)], none),
  (some 7, .alloc 25, none),
  (none, .store 25 (.tmp 7) (.tmp 39), none)] := by kernel_rfl
theorem size6 : reg6.size = 5 := by kernel_rfl
theorem info_at6 {i : Nat} {x : Option Tmp × Op × Option (Nat × Bool)} (hx : (reg6.toList.map opInfo)[i]? = some x) : ∃ o, reg6[i]? = some o ∧ o.dst = x.1 ∧ o.op = x.2.1 ∧ o.guard = x.2.2 := by
  rw [List.getElem?_map, Array.getElem?_toList] at hx
  cases h : reg6[i]? with
  | none => rw [h] at hx; cases hx
  | some o => rw [h] at hx; cases hx; exact ⟨o, rfl, rfl, rfl, rfl⟩
abbrev SPN : Ty := .prod (.int .i64) (.prod (.int .i64) .unit)
def g6 (st : St) : RT := match get st 5 with
  | .d (.int .i64) o => (match get st 6 with
    | .d (.int .i64) r => (match isBox (get st 37) || isBox (get st 38) || isBox (get st 39) || isBox (get st 7) || !(st.length == 81) with
      | true => .fail
      | false => .ret (((((st.map dropS).set 37 .und).set 38 .und).set 39 .und).set 7 (.box [.own SPN [] true, .d (.int .i64) r, .d (.int .i64) o])))
    | _ => .fail)
  | _ => .fail
theorem ex_build25 {a : Act} {w : World} {o : Oper} {x y : Int} (ho : o.op = .build 25 #[(2, .tmp 37), (1, .tmp 38)]) (h1 : tm a 37 = .int .i64 x) (h2 : tm a 38 = .int .i64 y) : (execOp a.eval o).run Tryz.prog w = .ok (.value (.agg #[.slice none 0 0, .int .i64 y, .int .i64 x])) w := by
  have e1 : a.eval (.tmp 37) = .int .i64 x := h1
  have e2 : a.eval (.tmp 38) = .int .i64 y := h2
  simp only [execOp, ho, List.map_toArray, List.map_cons, List.map_nil, e1, e2]
  simp [go_sem]
theorem ex_alloc25 {a : Act} {w : World} {o : Oper} (ho : o.op = .alloc 25) : (execOp a.eval o).run Tryz.prog w = .ok (.value (.pointer (some ⟨w.heap.size, 0, none⟩))) (w.alloc (.cells #[.slice none 0 0, .int .i64 0, .int .i64 0] 25)) := by
  simp only [execOp, ho]
  simp [go_sem]
theorem ex_store25 {a : Act} {w : World} {o : Oper} {x y : Int} (ho : o.op = .store 25 (.tmp 7) (.tmp 39)) (h1 : tm a 7 = .pointer (some ⟨w.heap.size, 0, none⟩)) (h2 : tm a 39 = .agg #[.slice none 0 0, .int .i64 y, .int .i64 x]) :
    (execOp a.eval o).run Tryz.prog (w.alloc (.cells #[.slice none 0 0, .int .i64 0, .int .i64 0] 25)) = .ok .skip (w.alloc (.cells #[.slice none 0 0, .int .i64 y, .int .i64 x] 25)) := by
  have e1 : a.eval (.tmp 7) = .pointer (some ⟨w.heap.size, 0, none⟩) := h1
  have e2 : a.eval (.tmp 39) = .agg #[.slice none 0 0, .int .i64 y, .int .i64 x] := h2
  simp only [execOp, ho, e1, e2]
  simp [go_sem]
theorem opn_skipped {P : Program} [Inv P] {n : Nat} {ops : Array Oper} {Q : Exit → Act → World → Prop} {i : Nat} {o : Oper} {a : Act} {w w' : World} {K : Act → World → Prop} (hi : ops[i]? = some o) (hw : Region.wanted o (yielded ops a.tmps) = true) (hd : ∀ c, o.op ≠ .defer c)
    (hr : (execOp a.eval o).run P w = .ok .skip w') (hK : K (a.put o.dst undef) w') : wpOpIn (fen none) n P ops Q i K a w := by
  unfold wpOpIn
  simp only [hi]
  rw [hw, if_pos rfl]
  refine ⟨fun f _ => fen_fn none f, ?_⟩
  rw [Oper.semAt_eq _ _ _ fun c e => absurd e (hd c), hr]
  exact hK
theorem get_setne {st : St} {i j : Nat} {s : S} (h : i ≠ j) : get (st.set j s) i = get st i := by
  unfold get
  rw [List.getD_eq_getElem?_getD, List.getD_eq_getElem?_getD, List.getElem?_set_ne (Ne.symm h)]
theorem put_und {M0 : Base} {F : Nat → Prop} {M : Mut} {st : St} {a : Act} {w : World} (hg : Good M0 F M st a w) {d : Nat} (hb : isBox (get st d) = false) (v : Value) : Good M0 F M (st.set d .und) (a.put (some d) v) w := by
  have := hg.fin (dst := some d) (s := .und) (v := v) (fun d' hd => by cases hd; exact hb) rfl trivial
  exact this
theorem isBox_dropS {s : S} (h : isBox s = false) : isBox (dropS s) = false := by rw [isBox_drop]; exact h
theorem reg6_ok : RegOK Tryz.prog (.region 6 reg6 false) g6 := by
  intro ρ F M0 w0 n hI hpl k fin Q hf hk st a w hc h
  unfold g6 at h
  split at h
  rotate_left
  · exact absurd h.symm hf
  rename_i o h5
  split at h
  rotate_left
  · exact absurd h.symm hf
  rename_i r h6
  split at h
  · exact absurd h.symm hf
  rename_i hnb
  simp only [Bool.or_eq_false_iff] at hnb
  obtain ⟨⟨⟨⟨n37, n38⟩, n39⟩, n7⟩, hlen⟩ := hnb
  have hlen : st.length = 81 := by simpa using hlen
  obtain ⟨hfr, M, hg⟩ := hc.drop
  have hm : ∀ i, get (st.map dropS) i = dropS (get st i) := fun i => get_map st i
  obtain ⟨hfr0, M', hg0⟩ := hc
  have s5 := hg0.slot 5
  rw [h5] at s5
  obtain ⟨cs5, e5, q5⟩ := s5
  have q5' : cs5 = [.int .i64 o] := q5
  subst q5'
  have s6 := hg0.slot 6
  rw [h6] at s6
  obtain ⟨cs6, e6, q6⟩ := s6
  have q6' : cs6 = [.int .i64 r] := q6
  subst q6'
  have t5 : tm a 5 = .int .i64 o := e5
  have t6 : tm a 6 = .int .i64 r := e6
  have hsz : a.tmps.size = 81 := hg0.size.trans hlen
  have g37 := put_und hg (d := 37) (by rw [hm]; exact isBox_dropS n37) (.int .i64 o)
  have g38 := put_und g37 (d := 38) (by rw [get_setne (by omega), hm]; exact isBox_dropS n38) (.int .i64 r)
  have g39 := put_und g38 (d := 39) (by rw [get_setne (by omega), get_setne (by omega), hm]; exact isBox_dropS n39) (.agg #[.slice none 0 0, .int .i64 r, .int .i64 o])
  have hbx : isBox (get ((((st.map dropS).set 37 .und).set 38 .und).set 39 .und) 7) = false := by
    rw [get_setne (by omega), get_setne (by omega), get_setne (by omega), hm]; exact isBox_dropS n7
  obtain ⟨o0, i0, d0, p0, q0⟩ := info_at6 (i := 0) (x := (some 37, .move (.tmp 5), none)) (by rw [info6]; rfl)
  obtain ⟨o1, i1, d1, p1, q1⟩ := info_at6 (i := 1) (x := (some 38, .move (.tmp 6), none)) (by rw [info6]; rfl)
  obtain ⟨o2, i2, d2, p2, q2⟩ := info_at6 (i := 2) (x := (some 39, .build 25 #[(2, .tmp 37), (1, .tmp 38)], none)) (by rw [info6]; rfl)
  obtain ⟨o3, i3, d3, p3, q3⟩ := info_at6 (i := 3) (x := (some 7, .alloc 25, none)) (by rw [info6]; rfl)
  obtain ⟨o4, i4, d4, p4, q4⟩ := info_at6 (i := 4) (x := (none, .store 25 (.tmp 7) (.tmp 39), none)) (by rw [info6]; rfl)
  obtain ⟨M2, hgb⟩ := g39.put_box (o := o3) (E := 25) (fun d hd => by rw [d3] at hd; cases hd; exact hbx) (cs := [.own SPN [] true, .d (.int .i64) r, .d (.int .i64) o]) (cells := #[.slice none 0 0, .int .i64 r, .int .i64 o])
    (fun k t xs hh h => by match k, h with | 0, h => cases h | 1, h => cases h | 2, h => cases h | _ + 3, h => cases h)
    (fun k t xs h => by match k, h with | 0, h => cases h | 1, h => cases h | 2, h => cases h | _ + 3, h => cases h)
    (fun k t xs hh v h1 h2 => by match k, h1, h2 with | 0, _, h2 => cases h2; rfl | 1, h1, _ => cases h1 | 2, h1, _ => cases h1 | _ + 3, h1, _ => cases h1) rfl
    (fun k c u h1 h2 => by
      match k, h1, h2 with
      | 0, h1, h2 => cases h1; cases h2; exact ⟨RepC.list_nil _, .inl ⟨rfl, rfl⟩⟩
      | 1, h1, h2 => cases h1; cases h2; exact rfl
      | 2, h1, h2 => cases h1; cases h2; exact rfl
      | _ + 3, h1, _ => cases h1)
  rw [d3] at hgb
  refine wpIn_region ?_
  rw [size6]
  show wpOpsIn (fen none) n Tryz.prog reg6 Q [0, 1, 2, 3, 4] a w
  rw [wpOpsIn_cons]
  refine opn_value i0 (wanted_none q0) (fun c h => by rw [p0] at h; cases h) (ex_move p0) ?_
  rw [d0, t5, wpOpsIn_cons]
  refine opn_value i1 (wanted_none q1) (fun c h => by rw [p1] at h; cases h) (ex_move p1) ?_
  rw [d1, tm_put_other (by omega), t6, wpOpsIn_cons]
  refine opn_value i2 (wanted_none q2) (fun c h => by rw [p2] at h; cases h) (ex_build25 (x := o) (y := r) p2 (by rw [tm_put_other (by omega), tm_put_same (by omega)]) (by rw [tm_put_same (by rw [size_put]; omega)])) ?_
  rw [d2, wpOpsIn_cons]
  refine opn_value i3 (wanted_none q3) (fun c h => by rw [p3] at h; cases h) (ex_alloc25 p3) ?_
  rw [d3, wpOpsIn_cons]
  refine opn_skipped i4 (wanted_none q4) (fun c h => by rw [p4] at h; cases h) (ex_store25 (x := o) (y := r) p4 (by rw [tm_put_same (by simp only [size_put]; omega)]) (by rw [tm_put_other (by omega), tm_put_same (by simp only [size_put]; omega)])) ?_
  rw [d4]
  exact hk _ _ _ ⟨hfr.alloc hg.room _, M2, hgb⟩ h
end Go.V
namespace Go.V
open Go.Proofs
open Go.RowKit (Below)
noncomputable def reg116 : Array Oper := match findRegion 0 (bodyOf Tryz.f116) with | some o => o | none => #[]
theorem info116 : reg116.toList.map opInfo = [
  (some 2, .load 9 (.tmp 0), none),
  (some 3, .call { callee := .value (.func 117), args := #[.tmp 2], argTypes := #[9] }, none),
  (none, .store 25 (.tmp 1) (.tmp 3), none)] := by kernel_rfl
theorem size116 : reg116.size = 3 := by kernel_rfl
theorem body116 : Tryz.f116.body = some (.region 0 reg116 false) := by kernel_rfl
theorem info_at116 {i : Nat} {x : Option Tmp × Op × Option (Nat × Bool)} (hx : (reg116.toList.map opInfo)[i]? = some x) : ∃ o, reg116[i]? = some o ∧ o.dst = x.1 ∧ o.op = x.2.1 ∧ o.guard = x.2.2 := by
  rw [List.getElem?_map, Array.getElem?_toList] at hx
  cases h : reg116[i]? with
  | none => rw [h] at hx; cases hx
  | some o => rw [h] at hx; cases hx; exact ⟨o, rfl, rfl, rfl, rfl⟩
theorem opn_enter_pan {P : Program} [Inv P] {n : Nat} {ops : Array Oper} {Q : Exit → Act → World → Prop} {i : Nat} {o : Oper} {a : Act} {w w' : World} {K : Act → World → Prop} (hi : ops[i]? = some o) (hw : Region.wanted o (yielded ops a.tmps) = true) (hd : ∀ c, o.op ≠ .defer c) {f : FuncId} {args : Array Value} (hr : (execOp a.eval o).run P w = .ok (.enter f args) w')
    (hK : Calls P f args w' fun e w2 => ∃ c, e = .panicked c ∧ Q (.panic c) a w2) : wpOpIn (fen none) n P ops Q i K a w := by
  unfold wpOpIn
  simp only [hi]
  rw [hw, if_pos rfl]
  refine ⟨fun f _ => fen_fn none f, ?_⟩
  rw [Oper.semAt_eq _ _ _ fun c e => absurd e (hd c), hr]
  refine ⟨fun hd => (by rw [fen_depth] at hd; cases hd), calls_fen (hK.mono ?_)⟩
  rintro e w2 ⟨c, rfl, h⟩
  exact h
theorem ex_load9 {a : Act} {w : World} {o : Oper} (ho : o.op = .load 9 (.tmp 0)) {b : Nat} {s : ByteArray} (ht : tm a 0 = .pointer (some ⟨b, 0, none⟩)) (hh : w.cell? ⟨b, 0, none⟩ = some (.string s)) : (execOp a.eval o).run Tryz.prog w = .ok (.value (.string s)) w := by
  have e1 : a.eval (.tmp 0) = .pointer (some ⟨b, 0, none⟩) := ht
  simp only [execOp, ho, e1]
  simp [go_sem, hh]
theorem ex_call117 {a : Act} {w : World} {o : Oper} {v : Value} (ho : o.op = .call { callee := .value (.func 117), args := #[.tmp 2], argTypes := #[9] }) (h1 : tm a 2 = v) : (execOp a.eval o).run Tryz.prog w = .ok (.enter 117 #[v]) w := by
  have e1 : a.eval (.tmp 2) = v := h1
  have e4 : a.eval (.func 117) = .func (.func 117) #[] #[] := rfl
  have e3 := enters_run (P := Tryz.prog) (g := 117) (by kernel_rfl) #[v] w
  simp [execOp, ho, resolve, e1, e4, Deferred.ofValue, invoke, e3]
theorem ex_store116 {a : Act} {w : World} {o : Oper} (ho : o.op = .store 25 (.tmp 1) (.tmp 3)) {b T : Nat} {c0 c1 c2 v0 v1 v2 : Value} (h1 : tm a 1 = .pointer (some ⟨b, 0, none⟩)) (h3 : tm a 3 = .agg #[v0, v1, v2]) (hh : w.heap[b]? = some (.cells #[c0, c1, c2] T (0, 0)))
    (ho1 : ∀ v ∈ [v0, v1, v2], v.oneCell' = true) : (execOp a.eval o).run Tryz.prog w = .ok .skip (w.setRow b #[v0, v1, v2]) := by
  have e1 : a.eval (.tmp 1) = .pointer (some ⟨b, 0, none⟩) := h1
  have e3 : a.eval (.tmp 3) = .agg #[v0, v1, v2] := h3
  have hrun := run_storeVar (P := Tryz.prog) (n := 9) (T := 25) (t := STAB) (by kernel_rfl) (o := 0) (v := .agg #[v0, v1, v2]) rfl hh (by show 0 + 3 ≤ 3; omega) ho1
  simp only [execOp, ho, e1, e3, Instr.storeAt, Instr.sureAddr, Sem.run_bind, Sem.run_pure, Result.andThen_ok]
  rw [hrun]
  rfl
theorem read1_ret {w : World} {b1 b4 : Nat} {s : List UInt8} (h1 : w.cell? ⟨b1, 0, none⟩ = some (.string ⟨⟨s⟩⟩)) {R : Value → Value → Value → World → Prop}
    (h4 : ∀ v0 v1 v2 w', R v0 v1 v2 w' → (∃ c0 c1 c2 T4, w'.heap[b4]? = some (.cells #[c0, c1, c2] T4 (0, 0))) ∧ ∀ v ∈ [v0, v1, v2], v.oneCell' = true)
    (h : Calls Tryz.prog 117 #[.string ⟨⟨s⟩⟩] w fun e w' => ∃ v0 v1 v2, e = .returned (.agg #[v0, v1, v2]) ∧ R v0 v1 v2 w') :
    Calls Tryz.prog 116 #[.pointer (some ⟨b1, 0, none⟩), .pointer (some ⟨b4, 0, none⟩)] w fun e w' => (∃ u, e = .returned u) ∧ ∃ v0 v1 v2 w2, R v0 v1 v2 w2 ∧ w' = w2.setRow b4 #[v0, v1, v2] := by
  refine (callsIn_wide (n := 0)).1 (callsIn_of_wp Tryz.func116 body116 trivial (wpIn_region ?_))
  rw [size116]
  obtain ⟨o0, i0, d0, p0, q0⟩ := info_at116 (i := 0) (x := (some 2, .load 9 (.tmp 0), none)) (by rw [info116]; rfl)
  obtain ⟨o1, i1, d1, p1, q1⟩ := info_at116 (i := 1) (x := (some 3, .call { callee := .value (.func 117), args := #[.tmp 2], argTypes := #[9] }, none)) (by rw [info116]; rfl)
  obtain ⟨o2, i2, d2, p2, q2⟩ := info_at116 (i := 2) (x := (none, .store 25 (.tmp 1) (.tmp 3), none)) (by rw [info116]; rfl)
  show wpOpsIn (fen none) 0 Tryz.prog reg116 _ [0, 1, 2] _ w
  rw [Tryz.ntmps116, wpOpsIn_cons]
  refine opn_value i0 (wanted_none q0) (fun c h => by rw [p0] at h; cases h) (ex_load9 p0 rfl h1) ?_
  rw [d0, wpOpsIn_cons]
  refine opn_enter i1 (wanted_none q1) (fun c h => by rw [p1] at h; cases h) (ex_call117 p1 rfl) (h.mono ?_)
  rintro e w2 ⟨v0, v1, v2, rfl, hR⟩
  obtain ⟨⟨c0, c1, c2, T4, h4'⟩, h1'⟩ := h4 _ _ _ _ hR
  refine ⟨_, rfl, ?_⟩
  rw [d1, wpOpsIn_cons]
  refine opn_skipped i2 (wanted_none q2) (fun c h => by rw [p2] at h; cases h) (ex_store116 p2 rfl rfl h4' h1') ?_
  rw [d2]
  refine bodyPost_end (results_none rfl _ _ _) rfl ?_
  exact ⟨⟨_, rfl⟩, v0, v1, v2, w2, hR, rfl⟩
theorem read1_pan {w : World} {b1 b4 : Nat} {s : List UInt8} (h1 : w.cell? ⟨b1, 0, none⟩ = some (.string ⟨⟨s⟩⟩)) {R : List PanicEntry → World → Prop}
    (h : Calls Tryz.prog 117 #[.string ⟨⟨s⟩⟩] w fun e w' => ∃ c, e = .panicked c ∧ R c w') :
    Calls Tryz.prog 116 #[.pointer (some ⟨b1, 0, none⟩), .pointer (some ⟨b4, 0, none⟩)] w fun e w' => ∃ c, e = .panicked c ∧ R c w' := by
  refine (callsIn_wide (n := 0)).1 (callsIn_of_wp Tryz.func116 body116 trivial (wpIn_region ?_))
  rw [size116]
  obtain ⟨o0, i0, d0, p0, q0⟩ := info_at116 (i := 0) (x := (some 2, .load 9 (.tmp 0), none)) (by rw [info116]; rfl)
  obtain ⟨o1, i1, d1, p1, q1⟩ := info_at116 (i := 1) (x := (some 3, .call { callee := .value (.func 117), args := #[.tmp 2], argTypes := #[9] }, none)) (by rw [info116]; rfl)
  show wpOpsIn (fen none) 0 Tryz.prog reg116 _ [0, 1, 2] _ w
  rw [Tryz.ntmps116, wpOpsIn_cons]
  refine opn_value i0 (wanted_none q0) (fun c h => by rw [p0] at h; cases h) (ex_load9 p0 rfl h1) ?_
  rw [d0, wpOpsIn_cons]
  refine opn_enter_pan i1 (wanted_none q1) (fun c h => by rw [p1] at h; cases h) (ex_call117 p1 rfl) (h.mono ?_)
  rintro e w2 ⟨c, rfl, hR⟩
  exact ⟨c, rfl, rfl, c, rfl, hR⟩
end Go.V
