/- A part of the proof of a law of the step table. -/
import Derived.Test.YtpnilbemlgbokaaGreatDoorSR
set_option linter.all false
/- lists$1$1, called: every list from here on. -/
namespace Go.V
open Go.Proofs
open Go.RowKit (Below)

section
variable {K : Ctx} {i0 cnt : Nat} {M1 : Mut} {W1 : World} {now : List Int} {v : Value} {fr t2 : Int} {s : Bool}

theorem region7_wp (hK : K.OK) (hat : K.At i0 M1 W1) (hv : RepV M1 W1 (.list (.int .i64)) v now) (hn : now.length < 1000000) (hs : fsure K.t fr t2 = .ret s)
    (hput : s = true → ∀ W2 u, K.At i0 M1 W2 → RepV M1 W2 (.list (.int .i64)) u (now ++ [t2]) → Calls Tryz.prog 141 #[u, K.PT, K.PY, K.PX, K.PP] W2 fun r W3 =>
      (r = .returned (.bool true) ∧ ∃ M2, K.At (i0 + cnt) M2 W3 ∧ Stable M1 W2 M2 W3) ∨ (r = .returned (.bool false) ∧ K.Jx W3))
    {a : Act} (hsz : a.tmps.size = 48) (hd : a.defers = []) (h0 : tm a 0 = v) (h3 : tm a 3 = K.PX) (h4 : tm a 4 = K.PP) (h7 : tm a 7 = .int .i64 fr) (h8 : tm a 8 = .int .i64 t2) {Q : Exit → Act → World → Prop}
    (hQ : ∀ a' W2, a'.tmps.size = 48 → a'.defers = [] → (∀ j, j < 33 → tm a' j = tm a j) → ((s = false ∧ tm a' 47 = .bool false ∧ ∃ M2, K.At i0 M2 W2 ∧ Stable M1 W1 M2 W2) ∨ (s = true ∧ tm a' 47 = .bool false ∧ ∃ M2, K.At (i0 + cnt) M2 W2 ∧ Stable M1 W1 M2 W2) ∨
      (s = true ∧ tm a' 47 = .bool true ∧ K.Jx W2)) → Q .normal a' W2) :
    (Code.region 7 ops7 true).wp Tryz.prog Q a W1 := by
  refine (wpIn_wide (n := 0)).1 (region_inv (ro := none) (I := RI K i0 cnt M1 W1 now v fr t2 s a) mixed early7 ?_ (fun L a' w i o hI ho hni hr => step7 hK hat hv hn hs hput h0 h3 h4 h7 h8 hI i ?_ ho hni hr) ?_)
  · refine ⟨fun _ _ _ h => (by cases h), hsz, hd, fun _ _ => rfl, fun _ h => (by cases h), fun _ => ⟨(Fr.refl _ _).drew, ?_⟩⟩
    obtain ⟨es, cl, e1, e2⟩ := hat.hm
    exact ⟨es, cl, e1, e2⟩
  · have := (Array.getElem?_eq_some_iff.1 ho).1
    rw [size7] at this
    exact this
  · intro L a' w hI hall
    rw [size7] at hall
    refine hQ a' w hI.size hI.defers hI.home ?_
    have g14 := hI.item 14 (hall 14 (by omega)) trivial
    rcases g14 with ⟨hs', g14⟩ | ⟨hs', bb, g45, g14⟩
    · have hw := hI.wp fun h => by rw [hs'] at h; cases h
      exact .inl ⟨hs', g14, M1, hat.go hK hw.1 hw.2, hat.stable hK hw.1⟩
    · right
      rcases hI.item 12 (hall 12 (by omega)) trivial hs' with ⟨g, M2, h1, h2⟩ | ⟨g, h1⟩
      · have g' : tm a' 45 = .bool true := g
        rw [g'] at g45
        cases g45
        exact .inl ⟨hs', g14, M2, h1, h2⟩
      · have g' : tm a' 45 = .bool false := g
        rw [g'] at g45
        cases g45
        exact .inr ⟨hs', g14, h1⟩
end

noncomputable def ops3 : Array Oper := match findRegion 3 (bodyOf Tryz.f141) with | some o => o | none => #[]
theorem info3 : ops3.toList.map opInfo = [
  (some 21, .load 102 (.tmp 2), none),
  (some 22, .move (.tmp 0), none),
  (some 23, .call { callee := .value (.tmp 21), args := #[.tmp 22], argTypes := #[26] }, none),
  (some 6, .assign (.tmp 23), none)] := by kernel_rfl
theorem size3 : ops3.size = 4 := by kernel_rfl

theorem info_at3 {i : Nat} {x : Option Tmp × Op × Option (Nat × Bool)} (hx : (ops3.toList.map opInfo)[i]? = some x) : ∃ o, ops3[i]? = some o ∧ o.dst = x.1 ∧ o.op = x.2.1 ∧ o.guard = x.2.2 := by
  rw [List.getElem?_map, Array.getElem?_toList] at hx
  cases h : ops3[i]? with
  | none => rw [h] at hx; cases hx
  | some o => rw [h] at hx; cases hx; exact ⟨o, rfl, rfl, rfl, rfl⟩

theorem opn_round {P : Program} [Inv P] {n : Nat} {ops : Array Oper} {Q : Exit → Act → World → Prop} {i : Nat} {o : Oper} {a : Act} {w w' : World} {K : Act → World → Prop} (hi : ops[i]? = some o) (hw : Region.wanted o (yielded ops a.tmps) = true) (hd : ∀ c, o.op ≠ .defer c) {l f : Nat} {tmps : Array Value} {assign body : Code}
    (hr : (execOp a.eval o).run P w = .ok (.round l f tmps assign body) w') (hK : RoundIn Fence.wide 0 P l f tmps assign body w' fun e w2 => ∃ v, e = .returned v ∧ K (a.put o.dst v) w2) : wpOpIn (fen none) n P ops Q i K a w := by
  unfold wpOpIn
  simp only [hi]
  rw [hw, if_pos rfl]
  refine ⟨fun f _ => fen_fn none f, ?_⟩
  rw [Oper.semAt_eq _ _ _ fun c e => absurd e (hd c), hr]
  refine ⟨fun hd => (by rw [fen_depth] at hd; cases hd), ?_⟩
  refine ⟨hK.1, fun c cs _ => ?_⟩
  obtain ⟨e, w2, ⟨v, rfl, h⟩, hs⟩ := hK.2 c cs (room_wide _)
  exact ⟨.returned v, w2, h, hs⟩

theorem ex_load102' {a : Act} {w : World} {o : Oper} {j : Nat} (ho : o.op = .load 102 (.tmp j)) {b T : Nat} {f : Fn} {x y : Array Value} (ht : tm a j = .pointer (some ⟨b, 0, none⟩)) (hh : w.heap[b]? = some (.cells #[.func f x y] T (0, 0))) : (execOp a.eval o).run Tryz.prog w = .ok (.value (.func f x y)) w := by
  have := load_cells (P := Tryz.prog) (n := 9) (T := 102) (t := .raw) (w := w) (b := b) (off := 0) (us' := []) (c1 := [.func f x y]) (by kernel_rfl) hh rfl rfl
  have e1 : a.eval (.tmp j) = .pointer (some ⟨b, 0, none⟩) := ht
  simp [execOp, ho, e1, Instr.loadAt, Instr.sureAddr, this, toVal, Ty.agg]
theorem ex_assign {a : Act} {w : World} {o : Oper} {j : Nat} (ho : o.op = .assign (.tmp j)) : (execOp a.eval o).run Tryz.prog w = .ok (.value (tm a j)) w := by
  simp [execOp, ho, Act.eval]
theorem ex_yield {a : Act} {w : World} {o : Oper} {l f : Nat} {u : Value} {tmps : Array Value} {assign body : Code} (ho : o.op = .call { callee := .value (.tmp 21), args := #[.tmp 22], argTypes := #[26] }) (h0 : tm a 21 = .func (.yield l) #[] #[]) (h1 : tm a 22 = u)
    (hy : (Instr.yield l #[u]).run Tryz.prog w = .ok (.round l f tmps assign body) w) : (execOp a.eval o).run Tryz.prog w = .ok (.round l f tmps assign body) w := by
  have e0 : a.eval (.tmp 21) = .func (.yield l) #[] #[] := h0
  have e1 : a.eval (.tmp 22) = u := h1
  simp [execOp, ho, resolve, e0, e1, Deferred.ofValue, invoke, hy]

theorem At.round {K : Ctx} (hK : K.OK) {i : Nat} {M1 M2 : Mut} {W1 W2 : World} (hat : K.At i M1 W1) (hj : K.J (i + 1) M2 W2) (hk : RoundKeeps K.R M1 W1 M2 W2) : K.At (i + 1) M2 W2 ∧ Stable M1 W1 M2 W2 := by
  have same : ∀ k, K.W.heap.size ≤ k → (∀ o, ¬ M1 k o) → ∀ {ob : Obj}, W1.heap[k]? = some ob → W2.heap[k]? = some ob := fun k hge hno {ob} h =>
    (hk.same k (Array.getElem?_eq_some_iff.1 h).1 hno fun hR => by have := hK.rlt k hR; omega).trans h
  refine ⟨⟨hj, Nat.le_trans hat.size hk.size, same _ hK.gey (fun o h => (hat.mu _ o h).2.1 rfl) hat.hy, same _ hK.gex (fun o h => (hat.mu _ o h).2.2.1 rfl) hat.hx, same _ hK.gep (fun o h => (hat.mu _ o h).2.2.2.1 rfl) hat.hp, ?_, fun k o h => ⟨hk.lt k o h, ?_⟩, hat.keep.trans hk.stable⟩, hk.stable⟩
  · obtain ⟨es, cl, h1, h2⟩ := hat.hm
    exact ⟨es, cl, same _ hK.gem (fun o h => (hat.mu _ o h).2.2.2.2 rfl) h1, h2⟩
  · have lt : ∀ {k : Nat} {ob : Obj}, W1.heap[k]? = some ob → k < W1.heap.size := fun e => (Array.getElem?_eq_some_iff.1 e).1
    rcases hk.new k o h with ⟨o', h'⟩ | h'
    · exact (hat.mu k o' h').2
    · have h1 := lt hat.hy
      have h2 := lt hat.hx
      have h3 := lt hat.hp
      obtain ⟨es, cl, h4, _⟩ := hat.hm
      have h4 := lt h4
      refine ⟨?_, ?_, ?_, ?_⟩ <;> omega

theorem region3_wp {K : Ctx} (hK : K.OK) {i0 : Nat} {M1 : Mut} {W1 : World} {now : List Int} {v : Value} (hat : K.At i0 M1 W1) (hv : RepV M1 W1 (.list (.int .i64)) v now) (hy : K.ys[i0]? = some now)
    {a : Act} (hsz : a.tmps.size = 48) (hd : a.defers = []) (h0 : tm a 0 = v) (h2 : tm a 2 = K.PY) {Q : Exit → Act → World → Prop}
    (hQ : ∀ a' W2, a'.tmps.size = 48 → a'.defers = [] → ((tm a' 6 = .bool true ∧ ∃ M2, K.At (i0 + 1) M2 W2 ∧ Stable M1 W1 M2 W2) ∨ (tm a' 6 = .bool false ∧ K.Jx W2)) → Q .normal a' W2) :
    (Code.region 3 ops3 false).wp Tryz.prog Q a W1 := by
  refine (wpIn_wide (n := 0)).1 (wpIn_region ?_)
  rw [size3]
  show wpOpsIn Fence.wide 0 Tryz.prog ops3 Q [0, 1, 2, 3] a W1
  obtain ⟨o0, i0', d0, p0, g0⟩ := info_at3 (i := 0) (x := (some 21, .load 102 (.tmp 2), none)) (by rw [info3]; rfl)
  obtain ⟨o1, i1', d1, p1, g1⟩ := info_at3 (i := 1) (x := (some 22, .move (.tmp 0), none)) (by rw [info3]; rfl)
  obtain ⟨o2, i2', d2, p2, g2⟩ := info_at3 (i := 2) (x := (some 23, .call { callee := .value (.tmp 21), args := #[.tmp 22], argTypes := #[26] }, none)) (by rw [info3]; rfl)
  obtain ⟨o3, i3', d3, p3, g3⟩ := info_at3 (i := 3) (x := (some 6, .assign (.tmp 23), none)) (by rw [info3]; rfl)
  obtain ⟨fn, tmps, assign, body, hyr, hround⟩ := hK.round _ _ _ _ _ hat.j hy hv
  rw [wpOpsIn_cons]
  refine opn_value i0' (wanted_none g0) (fun c h => by rw [p0] at h; cases h) (ex_load102' p0 h2 hat.hy) ?_
  rw [d0, wpOpsIn_cons]
  refine opn_value i1' (wanted_none g1) (fun c h => by rw [p1] at h; cases h) (ex_move p1) ?_
  rw [d1, tm_put_other (by omega), h0, wpOpsIn_cons]
  refine opn_round i2' (wanted_none g2) (fun c h => by rw [p2] at h; cases h) (ex_yield p2 ?_ ?_ hyr) (hround.mono ?_)
  · rw [tm_put_other (by omega), tm_put_same (by omega)]
  · rw [tm_put_same (by rw [size_put]; omega)]
  · intro e W2 he
    have hex : ∃ u, e = .returned u ∧ ((u = .bool true ∧ ∃ M2, K.At (i0 + 1) M2 W2 ∧ Stable M1 W1 M2 W2) ∨ (u = .bool false ∧ K.Jx W2)) := by
      rcases he with ⟨rfl, M2, q1, q2⟩ | ⟨rfl, q1⟩
      · exact ⟨_, rfl, .inl ⟨rfl, M2, At.round hK hat q1 q2⟩⟩
      · exact ⟨_, rfl, .inr ⟨rfl, q1⟩⟩
    obtain ⟨u, rfl, hu⟩ := hex
    refine ⟨u, rfl, ?_⟩
    rw [d2, wpOpsIn_cons]
    refine opn_value i3' (wanted_none g3) (fun c h => by rw [p3] at h; cases h) (ex_assign p3) ?_
    rw [d3, tm_put_same (by rw [size_put, size_put]; omega)]
    refine hQ _ _ (by simp only [size_put]; exact hsz) (by simp only [defers_put]; exact hd) ?_
    rw [tm_put_same (by simp only [size_put]; omega)]
    exact hu
end Go.V
