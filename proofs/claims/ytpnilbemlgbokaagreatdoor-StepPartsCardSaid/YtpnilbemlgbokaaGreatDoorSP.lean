/- A part of the proof of a law of the step table. -/
import Derived.Test.YtpnilbemlgbokaaGreatDoorSO
set_option linter.all false
/- lists$1$1, the region that tries a row: its operations. -/
namespace Go.V
open Go.Proofs
open Go.RowKit (Below)

section
variable {P : Program} [Inv P] {n : Nat} {ops : Array Oper} {Q : Exit → Act → World → Prop} {i : Nat} {o : Oper} {a : Act} {w w' : World} {K : Act → World → Prop}

theorem opn_value (hi : ops[i]? = some o) (hw : Region.wanted o (yielded ops a.tmps) = true) (hd : ∀ c, o.op ≠ .defer c) {v : Value} (hr : (execOp a.eval o).run P w = .ok (.value v) w') (hK : K (a.put o.dst v) w') : wpOpIn (fen none) n P ops Q i K a w := by
  unfold wpOpIn
  simp only [hi]
  rw [hw, if_pos rfl]
  refine ⟨fun f _ => fen_fn none f, ?_⟩
  rw [Oper.semAt_eq _ _ _ fun c e => absurd e (hd c), hr]
  exact hK

theorem opn_skip (hi : ops[i]? = some o) (hw : Region.wanted o (yielded ops a.tmps) = false) (hK : K (a.put o.dst undef) w) : wpOpIn (fen none) n P ops Q i K a w := by
  unfold wpOpIn
  simp only [hi]
  rw [hw, if_neg (by simp)]
  exact ⟨fun f _ => fen_fn none f, hK⟩

theorem opn_enter (hi : ops[i]? = some o) (hw : Region.wanted o (yielded ops a.tmps) = true) (hd : ∀ c, o.op ≠ .defer c) {f : FuncId} {args : Array Value} (hr : (execOp a.eval o).run P w = .ok (.enter f args) w')
    (hK : Calls P f args w' fun e w2 => ∃ v, e = .returned v ∧ K (a.put o.dst v) w2) : wpOpIn (fen none) n P ops Q i K a w := by
  unfold wpOpIn
  simp only [hi]
  rw [hw, if_pos rfl]
  refine ⟨fun f _ => fen_fn none f, ?_⟩
  rw [Oper.semAt_eq _ _ _ fun c e => absurd e (hd c), hr]
  refine ⟨fun hd => (by rw [fen_depth] at hd; cases hd), calls_fen (hK.mono ?_)⟩
  rintro e w2 ⟨v, rfl, h⟩
  exact h

theorem wanted_none (h : o.guard = none) : Region.wanted o (yielded ops a.tmps) = true := by unfold Region.wanted; rw [h]

theorem wanted_some {j t : Nat} {want b : Bool} (h : o.guard = some (j, want)) (ht : (ops[j]?).bind (·.dst) = some t) (hlt : t < a.tmps.size) (hv : tm a t = .bool b) : Region.wanted o (yielded ops a.tmps) = (b == want) := by
  unfold Region.wanted
  rw [h]
  have hy : yielded ops a.tmps j = some b := by
    unfold yielded
    rw [ht]
    have : a.tmps[t]? = some (.bool b) := by
      rw [← hv]
      simp [tm, hlt]
    simp only [Option.bind_some, this]
  dsimp only
  rw [hy]
  cases b <;> cases want <;> rfl

theorem tm_put_same {d : Nat} {v : Value} (h : d < a.tmps.size) : tm (a.put (some d) v) d = v := by
  simp [tm, Act.put, h]
theorem tm_put_other {d j : Nat} {v : Value} (h : j ≠ d) : tm (a.put (some d) v) j = tm a j := by
  simp [tm, Act.put, Array.getElem?_setIfInBounds, Ne.symm h]
theorem size_put {d : Nat} {v : Value} : (a.put (some d) v).tmps.size = a.tmps.size := by simp [Act.put]
theorem defers_put {d : Nat} {v : Value} : (a.put (some d) v).defers = a.defers := by simp [Act.put]
end

/-- The regions of a body. -/
noncomputable def findRegion (id : Nat) : Code → Option (Array Oper)
  | .region k ops _ => bif k == id then some ops else none
  | .seq a b => (match findRegion id a with | some c => some c | none => findRegion id b)
  | .block _ b => findRegion id b
  | .scope b => findRegion id b
  | .cond _ a b => (match findRegion id a with | some c => some c | none => findRegion id b)
  | .loop b => findRegion id b
  | _ => none
noncomputable def ops7 : Array Oper := match findRegion 7 (bodyOf Tryz.f141) with | some o => o | none => #[]
def opInfo (o : Oper) : Option Tmp × Op × Option (Nat × Bool) := (o.dst, o.op, o.guard)
theorem info7 : ops7.toList.map opInfo = [
  (some 33, .load 99 (.tmp 3), none),
  (some 34, .move (.tmp 7), none),
  (some 35, .move (.tmp 8), none),
  (some 36, .build 116 #[(0, .tmp 34), (1, .tmp 35)], none),
  (some 37, .call { callee := .value (.func 142), args := #[.tmp 33, .tmp 36], argTypes := #[99, 116] }, none),
  (some 38, .move (.tmp 37), none),
  (some 39, .load 102 (.tmp 4), some (5, true)),
  (some 40, .move (.tmp 0), some (5, true)),
  (some 41, .call { callee := .value (.func 110), args := #[.tmp 40], argTypes := #[26] }, some (5, true)),
  (some 42, .move (.tmp 8), some (5, true)),
  (some 43, .buildSlice 26 1 #[(0, .tmp 42)], some (5, true)),
  (some 44, .call { callee := .builtin .append, args := #[.tmp 41, .tmp 43], argTypes := #[26, 26] }, some (5, true)),
  (some 45, .call { callee := .value (.tmp 39), args := #[.tmp 44], argTypes := #[26] }, some (5, true)),
  (some 46, .unOp .not 4 (.tmp 45), some (5, true)),
  (some 47, .pick (.tmp 38) (.tmp 46) (.const (.bool false)), none)] := by kernel_rfl
theorem size7 : ops7.size = 15 := by kernel_rfl
theorem early7 : early ops7 = true := by kernel_rfl
theorem waits7 : waits ops7 1 3 = true ∧ waits ops7 2 3 = true ∧ waits ops7 0 4 = true ∧ waits ops7 3 4 = true ∧ waits ops7 4 5 = true ∧ waits ops7 5 6 = true ∧ waits ops7 5 7 = true ∧ waits ops7 7 8 = true ∧ waits ops7 5 8 = true ∧ waits ops7 5 9 = true ∧
    waits ops7 9 10 = true ∧ waits ops7 5 10 = true ∧ waits ops7 8 11 = true ∧ waits ops7 10 11 = true ∧ waits ops7 5 11 = true ∧ waits ops7 6 12 = true ∧ waits ops7 11 12 = true ∧ waits ops7 5 12 = true ∧ waits ops7 12 13 = true ∧ waits ops7 5 13 = true ∧ waits ops7 5 14 = true ∧ waits ops7 13 14 = true :=
  ⟨by kernel_rfl, by kernel_rfl, by kernel_rfl, by kernel_rfl, by kernel_rfl, by kernel_rfl, by kernel_rfl, by kernel_rfl, by kernel_rfl, by kernel_rfl, by kernel_rfl, by kernel_rfl, by kernel_rfl, by kernel_rfl, by kernel_rfl, by kernel_rfl, by kernel_rfl, by kernel_rfl, by kernel_rfl, by kernel_rfl, by kernel_rfl, by kernel_rfl⟩

theorem info_at {i : Nat} {o : Oper} {x : Option Tmp × Op × Option (Nat × Bool)} (h : ops7[i]? = some o) (hx : (ops7.toList.map opInfo)[i]? = some x) : o.dst = x.1 ∧ o.op = x.2.1 ∧ o.guard = x.2.2 := by
  rw [List.getElem?_map, Array.getElem?_toList, h] at hx
  cases hx
  exact ⟨rfl, rfl, rfl⟩

/-! ### What the operations do -/
section
variable {a : Act} {w : World} {o : Oper}
theorem ex_load99 (ho : o.op = .load 99 (.tmp 3)) {b : Nat} {r f : Int} {bm T : Nat} (ht : tm a 3 = .pointer (some ⟨b, 0, none⟩)) {p : Option Addr} {n c : Nat}
    (hh : w.heap[b]? = some (.cells #[.slice p n c, .int .i64 r, .int .i64 f, .slice none 0 0, .map (some bm)] T (0, 0))) :
    (execOp a.eval o).run Tryz.prog w = .ok (.value (.agg #[.slice p n c, .int .i64 r, .int .i64 f, .slice none 0 0, .map (some bm)])) w := by
  have := load_cells (P := Tryz.prog) (n := 9) (T := 99) (t := TAB) (w := w) (b := b) (off := 0) (us' := []) (c1 := [.slice p n c, .int .i64 r, .int .i64 f, .slice none 0 0, .map (some bm)]) (by kernel_rfl) hh rfl rfl
  have e1 : a.eval (.tmp 3) = .pointer (some ⟨b, 0, none⟩) := ht
  simp [execOp, ho, e1, Instr.loadAt, Instr.sureAddr, this, toVal, Ty.agg]
theorem ex_move {j : Nat} (ho : o.op = .move (.tmp j)) : (execOp a.eval o).run Tryz.prog w = .ok (.value (tm a j)) w := by
  simp [execOp, ho, Act.eval]
theorem ex_build {x y : Int} (ho : o.op = .build 116 #[(0, .tmp 34), (1, .tmp 35)]) (h1 : tm a 34 = .int .i64 x) (h2 : tm a 35 = .int .i64 y) : (execOp a.eval o).run Tryz.prog w = .ok (.value (pairV x y)) w := by
  have e1 : a.eval (.tmp 34) = .int .i64 x := h1
  have e2 : a.eval (.tmp 35) = .int .i64 y := h2
  have e3 : ∀ (x y : Value) (w : World), x.oneCell' = true → True := fun _ _ _ _ => trivial
  simp only [execOp, ho, List.map_toArray, List.map_cons, List.map_nil, e1, e2]
  simp [go_sem, pairV]
theorem ex_call142 {v u : Value} (ho : o.op = .call { callee := .value (.func 142), args := #[.tmp 33, .tmp 36], argTypes := #[99, 116] }) (h1 : tm a 33 = v) (h2 : tm a 36 = u) : (execOp a.eval o).run Tryz.prog w = .ok (.enter 142 #[v, u]) w := by
  have e1 : a.eval (.tmp 33) = v := h1
  have e2 : a.eval (.tmp 36) = u := h2
  have e4 : a.eval (.func 142) = .func (.func 142) #[] #[] := rfl
  have e3 := enters_run (P := Tryz.prog) (g := 142) (by kernel_rfl) #[v, u] w
  simp [execOp, ho, resolve, e1, e2, e4, Deferred.ofValue, invoke, e3]
theorem ex_call110 {v : Value} (ho : o.op = .call { callee := .value (.func 110), args := #[.tmp 40], argTypes := #[26] }) (h1 : tm a 40 = v) : (execOp a.eval o).run Tryz.prog w = .ok (.enter 110 #[v]) w := by
  have e1 : a.eval (.tmp 40) = v := h1
  have e4 : a.eval (.func 110) = .func (.func 110) #[] #[] := rfl
  have e3 := enters_run (P := Tryz.prog) (g := 110) (by kernel_rfl) #[v] w
  simp [execOp, ho, resolve, e1, e4, Deferred.ofValue, invoke, e3]
theorem ex_load102 (ho : o.op = .load 102 (.tmp 4)) {b T : Nat} {f : Fn} {x y : Array Value} (ht : tm a 4 = .pointer (some ⟨b, 0, none⟩)) (hh : w.heap[b]? = some (.cells #[.func f x y] T (0, 0))) : (execOp a.eval o).run Tryz.prog w = .ok (.value (.func f x y)) w := by
  have := load_cells (P := Tryz.prog) (n := 9) (T := 102) (t := .raw) (w := w) (b := b) (off := 0) (us' := []) (c1 := [.func f x y]) (by kernel_rfl) hh rfl rfl
  have e1 : a.eval (.tmp 4) = .pointer (some ⟨b, 0, none⟩) := ht
  simp [execOp, ho, e1, Instr.loadAt, Instr.sureAddr, this, toVal, Ty.agg]
theorem ex_buildSlice {x : Int} (ho : o.op = .buildSlice 26 1 #[(0, .tmp 42)]) (h1 : tm a 42 = .int .i64 x) : (execOp a.eval o).run Tryz.prog w = .ok (.value (.slice (some ⟨w.heap.size, 0, none⟩) 1 1)) (w.alloc (.cells #[.int .i64 x] 3)) := by
  have e1 : a.eval (.tmp 42) = .int .i64 x := h1
  simp only [execOp, ho, List.map_toArray, List.map_cons, List.map_nil, e1]
  simp [go_sem]
theorem ex_calltmp {v : Value} {g : Nat} {fs pc : Array Value} (ho : o.op = .call { callee := .value (.tmp 39), args := #[.tmp 44], argTypes := #[26] }) (h0 : tm a 39 = .func (.func g) fs pc) (he : enters Tryz.prog g = true) (h1 : tm a 44 = v) : (execOp a.eval o).run Tryz.prog w = .ok (.enter g (fs ++ #[v] ++ pc)) w := by
  have e0 : a.eval (.tmp 39) = .func (.func g) fs pc := h0
  have e1 : a.eval (.tmp 44) = v := h1
  have e3 := fun args => enters_run (P := Tryz.prog) (g := g) he args w
  simp [execOp, ho, resolve, e0, e1, Deferred.ofValue, invoke, e3]
theorem ex_not {b : Bool} (ho : o.op = .unOp .not 4 (.tmp 45)) (h1 : tm a 45 = .bool b) : (execOp a.eval o).run Tryz.prog w = .ok (.value (.bool !b)) w := by
  have e1 : a.eval (.tmp 45) = .bool b := h1
  simp only [execOp, ho, e1]
  simp [go_sem]
theorem ex_pick {b : Bool} {v : Value} (ho : o.op = .pick (.tmp 38) (.tmp 46) (.const (.bool false))) (h0 : tm a 38 = .bool b) (h1 : b = true → tm a 46 = v) : (execOp a.eval o).run Tryz.prog w = .ok (.value (if b then v else .bool false)) w := by
  have e1 : a.eval (.tmp 38) = .bool b := h0
  simp only [execOp, ho, e1]
  cases b with
  | true => have e2 : a.eval (.tmp 46) = v := h1 rfl; simpa [go_sem] using h1 rfl
  | false => simp [go_sem]
theorem ex_append {base : Nat} {v : Value} {xs : List Int} {x : Int} {b : Nat} (ho : o.op = .call { callee := .builtin .append, args := #[.tmp 41, .tmp 43], argTypes := #[26, 26] }) (h0 : tm a 41 = v) (h1 : tm a 43 = .slice (some ⟨b, 0, none⟩) 1 1)
    (hown : w.ownsRow base 3 1 v xs.length (xs.map (Value.int .i64))) (hc : w.cell? ⟨b, 0, none⟩ = some (.int .i64 x)) (hlen : xs.length < 1000000) (hbase : base ≤ w.heap.size) :
    ∃ v' w', (execOp a.eval o).run Tryz.prog w = .ok (.value v') w' ∧ w'.ownsRow base 3 1 v' (xs ++ [x]).length ((xs ++ [x]).map (Value.int .i64)) ∧ w.grownBy w' v.ownBlock := by
  have e0 : a.eval (.tmp 41) = v := h0
  have e1 : a.eval (.tmp 43) = .slice (some ⟨b, 0, none⟩) 1 1 := h1
  obtain ⟨v', w', g1, g2, g3, _⟩ := run_append_own (P := Tryz.prog) w base 26 o.type 3 ((Tryz.prog.info? 3).getD default) (.int .i64 0) 1 8 (by kernel_rfl) (by kernel_rfl) (by kernel_rfl) (by kernel_rfl) (by kernel_rfl) rfl (by omega) v xs.length (xs.map (Value.int .i64)) hown ⟨b, 0, none⟩ 1 1 [.int .i64 x] rfl
    (fun j u hj => by
      match j, hj with
      | 0, hj => cases hj; exact hc
      | j + 1, hj => cases hj) (fun u hu => by simp at hu; subst hu; rfl) (by unfold maxLen; omega) (by omega) hbase
  refine ⟨v', w', ?_, by simpa using g2, g3⟩
  simp [execOp, ho, resolve, e0, e1, invoke, builtin, g1]
end
end Go.V
