/- A part of the proof of a law of the step table. -/
import Derived.Test.YtpnilbemlgbokaaGreatDoorSS
import Derived.Deep.Cut
set_option linter.all false
/- lists$1$1, called. -/
namespace Go.V
open Go.Proofs
open Go.RowKit (Below)

/-- All lists that begin with some rows and then a row from one on. -/
noncomputable def putL (rec : List Int → Out (List (List Int))) (t : ST) (now : List Int) (fr : Int) : Nat → Int → Out (List (List Int))
  | 0, _ => .fail
  | m + 1, t2 => match decide (t2 < lenI t.1) with
    | true => (match fsure t fr t2 with
      | .ret s => (match s with
        | true => (match rec (now ++ [t2]) with
          | .ret l => (match putL rec t now fr m (t2 + 1) with
            | .ret r => .ret (l ++ r)
            | _ => .fail)
          | _ => .fail)
        | false => putL rec t now fr m (t2 + 1))
      | _ => .fail)
    | false => .ret []

/-- All lists that begin with some rows. -/
noncomputable def putN (t : ST) : Nat → List Int → Out (List (List Int))
  | 0, _ => .fail
  | n + 1, now => bif decide (1 ≤ now.length) && decide (now.length < 1000000) && decide (t.1.length < 1000000) && decide (0 ≤ now.getD (now.length - 1) 0) && decide (now.getD (now.length - 1) 0 < lenI t.1) then
      (match decide (now.getD (now.length - 1) 0 = lenI t.1 - 1) with
      | true => .ret [now]
      | false => putL (putN t n) t now (now.getD (now.length - 1) 0) (t.1.length + 1) (now.getD (now.length - 1) 0 + 1))
    else .fail

theorem arr48 {xs : Array Value} (h : xs.size = 48) : ∃ x0 x1 x2 x3 x4 x5 x6 x7 x8 x9 x10 x11 x12 x13 x14 x15 x16 x17 x18 x19 x20 x21 x22 x23 x24 x25 x26 x27 x28 x29 x30 x31 x32 x33 x34 x35 x36 x37 x38 x39 x40 x41 x42 x43 x44 x45 x46 x47 : Value, xs = #[x0, x1, x2, x3, x4, x5, x6, x7, x8, x9, x10, x11, x12, x13, x14, x15, x16, x17, x18, x19, x20, x21, x22, x23, x24, x25, x26, x27, x28, x29, x30, x31, x32, x33, x34, x35, x36, x37, x38, x39, x40, x41, x42, x43, x44, x45, x46, x47] := by
  obtain ⟨l⟩ := xs
  have h0 : l.length = 48 := h
  clear h
  obtain ⟨x0, l, rfl, h1⟩ := list_cons h0
  clear h0
  obtain ⟨x1, l, rfl, h2⟩ := list_cons h1
  clear h1
  obtain ⟨x2, l, rfl, h3⟩ := list_cons h2
  clear h2
  obtain ⟨x3, l, rfl, h4⟩ := list_cons h3
  clear h3
  obtain ⟨x4, l, rfl, h5⟩ := list_cons h4
  clear h4
  obtain ⟨x5, l, rfl, h6⟩ := list_cons h5
  clear h5
  obtain ⟨x6, l, rfl, h7⟩ := list_cons h6
  clear h6
  obtain ⟨x7, l, rfl, h8⟩ := list_cons h7
  clear h7
  obtain ⟨x8, l, rfl, h9⟩ := list_cons h8
  clear h8
  obtain ⟨x9, l, rfl, h10⟩ := list_cons h9
  clear h9
  obtain ⟨x10, l, rfl, h11⟩ := list_cons h10
  clear h10
  obtain ⟨x11, l, rfl, h12⟩ := list_cons h11
  clear h11
  obtain ⟨x12, l, rfl, h13⟩ := list_cons h12
  clear h12
  obtain ⟨x13, l, rfl, h14⟩ := list_cons h13
  clear h13
  obtain ⟨x14, l, rfl, h15⟩ := list_cons h14
  clear h14
  obtain ⟨x15, l, rfl, h16⟩ := list_cons h15
  clear h15
  obtain ⟨x16, l, rfl, h17⟩ := list_cons h16
  clear h16
  obtain ⟨x17, l, rfl, h18⟩ := list_cons h17
  clear h17
  obtain ⟨x18, l, rfl, h19⟩ := list_cons h18
  clear h18
  obtain ⟨x19, l, rfl, h20⟩ := list_cons h19
  clear h19
  obtain ⟨x20, l, rfl, h21⟩ := list_cons h20
  clear h20
  obtain ⟨x21, l, rfl, h22⟩ := list_cons h21
  clear h21
  obtain ⟨x22, l, rfl, h23⟩ := list_cons h22
  clear h22
  obtain ⟨x23, l, rfl, h24⟩ := list_cons h23
  clear h23
  obtain ⟨x24, l, rfl, h25⟩ := list_cons h24
  clear h24
  obtain ⟨x25, l, rfl, h26⟩ := list_cons h25
  clear h25
  obtain ⟨x26, l, rfl, h27⟩ := list_cons h26
  clear h26
  obtain ⟨x27, l, rfl, h28⟩ := list_cons h27
  clear h27
  obtain ⟨x28, l, rfl, h29⟩ := list_cons h28
  clear h28
  obtain ⟨x29, l, rfl, h30⟩ := list_cons h29
  clear h29
  obtain ⟨x30, l, rfl, h31⟩ := list_cons h30
  clear h30
  obtain ⟨x31, l, rfl, h32⟩ := list_cons h31
  clear h31
  obtain ⟨x32, l, rfl, h33⟩ := list_cons h32
  clear h32
  obtain ⟨x33, l, rfl, h34⟩ := list_cons h33
  clear h33
  obtain ⟨x34, l, rfl, h35⟩ := list_cons h34
  clear h34
  obtain ⟨x35, l, rfl, h36⟩ := list_cons h35
  clear h35
  obtain ⟨x36, l, rfl, h37⟩ := list_cons h36
  clear h36
  obtain ⟨x37, l, rfl, h38⟩ := list_cons h37
  clear h37
  obtain ⟨x38, l, rfl, h39⟩ := list_cons h38
  clear h38
  obtain ⟨x39, l, rfl, h40⟩ := list_cons h39
  clear h39
  obtain ⟨x40, l, rfl, h41⟩ := list_cons h40
  clear h40
  obtain ⟨x41, l, rfl, h42⟩ := list_cons h41
  clear h41
  obtain ⟨x42, l, rfl, h43⟩ := list_cons h42
  clear h42
  obtain ⟨x43, l, rfl, h44⟩ := list_cons h43
  clear h43
  obtain ⟨x44, l, rfl, h45⟩ := list_cons h44
  clear h44
  obtain ⟨x45, l, rfl, h46⟩ := list_cons h45
  clear h45
  obtain ⟨x46, l, rfl, h47⟩ := list_cons h46
  clear h46
  obtain ⟨x47, l, rfl, h48⟩ := list_cons h47
  clear h47
  have h : l = [] := List.eq_nil_of_length_eq_zero h48
  subst h
  exact ⟨x0, x1, x2, x3, x4, x5, x6, x7, x8, x9, x10, x11, x12, x13, x14, x15, x16, x17, x18, x19, x20, x21, x22, x23, x24, x25, x26, x27, x28, x29, x30, x31, x32, x33, x34, x35, x36, x37, x38, x39, x40, x41, x42, x43, x44, x45, x46, x47, rfl⟩

def numOf : Value → Int
  | .int _ n => n
  | _ => 0

/-- What is so at the head of the loop over the next row. -/
def LI (K : Ctx) (i : Nat) (M1 : Mut) (W1 : World) (rec : List Int → Out (List (List Int))) (now : List Int) (v : Value) (fr : Int) (total : Nat) (a : Act) (w : World) : Prop :=
  a.tmps.size = 48 ∧ a.defers = [] ∧ tm a 0 = v ∧ tm a 1 = K.PT ∧ tm a 2 = K.PY ∧ tm a 3 = K.PX ∧ tm a 4 = K.PP ∧ tm a 7 = .int .i64 fr ∧
    ∃ (t2 : Int) (m i' : Nat) (M2 : Mut) (ls : List (List Int)), tm a 8 = .int .i64 t2 ∧ fr + 1 ≤ t2 ∧ t2 ≤ lenI K.t.1 ∧ K.At i' M2 w ∧ Stable M1 W1 M2 w ∧ putL rec K.t now fr m t2 = .ret ls ∧ i' + ls.length = total ∧ ∀ (j : Nat) y, ls[j]? = some y → K.ys[i' + j]? = some y

theorem len_of {K : Ctx} (hK : K.OK) : K.n = K.t.1.length := by
  obtain ⟨a, cap, e, _⟩ := hK.rep
  exact (Value.slice.inj (List.cons.inj e).1).2.1

set_option maxRecDepth 20000 in
theorem put_last {K : Ctx} (hK : K.OK) {now : List Int} {i : Nat} {M1 : Mut} {W1 : World} {b o cap k : Nat} {fr : Int} (hat : K.At i M1 W1) (hv : RepV M1 W1 (.list (.int .i64)) (.slice (some ⟨b, o, none⟩) (k + 1) cap) now)
    (hk : k + 1 < 1000000) (hnn : K.n < 1000000) (hc : W1.cell? ⟨b, o + k, none⟩ = some (.int .i64 fr)) (hcell : W1.cell? ⟨K.bt, K.ot, none⟩ = some (.slice K.p K.n K.c)) (heq : (fr == (K.n : Int) - 1) = true) (hy0 : K.ys[i]? = some now) :
    Calls Tryz.prog 141 #[.slice (some ⟨b, o, none⟩) (k + 1) cap, K.PT, K.PY, K.PX, K.PP] W1 fun r W2 =>
      (r = .returned (.bool true) ∧ ∃ M2, K.At (i + 1) M2 W2 ∧ Stable M1 W1 M2 W2) ∨ (r = .returned (.bool false) ∧ K.Jx W2) := by
  unfold Ctx.PT Ctx.PY Ctx.PX Ctx.PP
  go_enter Tryz.func141, Tryz.ntmps141
  go_upto_region 3 with fail
  rename_i Kx hKx Ky hKy
  change (Code.region 3 ops3 false).wp Tryz.prog _ _ _
  apply region3_wp hK hat hv hy0
  case hsz => rfl
  case hd => rfl
  case h0 => rfl
  case h2 => rfl
  case hQ =>
    intro a' W2 q1 q2 q3
    refine hKy _ _ ?_
    obtain ⟨tmps, defers⟩ := a'
    obtain ⟨x0, x1, x2, x3, x4, x5, x6, x7, x8, x9, x10, x11, x12, x13, x14, x15, x16, x17, x18, x19, x20, x21, x22, x23, x24, x25, x26, x27, x28, x29, x30, x31, x32, x33, x34, x35, x36, x37, x38, x39, x40, x41, x42, x43, x44, x45, x46, x47, rfl⟩ := arr48 q1
    have q2 : defers = [] := q2
    subst q2
    rcases q3 with ⟨e6, M2, h1, h2⟩ | ⟨e6, h1⟩
    · have e6 : x6 = _ := e6
      subst e6
      clear hKx hKy
      go_wp2
      simp [bodyPost, results, Tryz.results141, go_sem]
      exact ⟨M2, h1, h2⟩
    · have e6 : x6 = _ := e6
      subst e6
      clear hKx hKy
      go_wp2
      simp [bodyPost, results, Tryz.results141, go_sem]
      exact h1

set_option maxRecDepth 20000 in
theorem put_more {K : Ctx} (hK : K.OK) {rec : List Int → Out (List (List Int))} {now : List Int} {ls : List (List Int)} {i : Nat} {M1 : Mut} {W1 : World} {b o cap k : Nat} {fr : Int} (hat : K.At i M1 W1) (hv : RepV M1 W1 (.list (.int .i64)) (.slice (some ⟨b, o, none⟩) (k + 1) cap) now)
    (hk : k + 1 < 1000000) (hkl : now.length = k + 1) (hnn : K.n < 1000000) (hc : W1.cell? ⟨b, o + k, none⟩ = some (.int .i64 fr)) (hcell : W1.cell? ⟨K.bt, K.ot, none⟩ = some (.slice K.p K.n K.c)) (heq : (fr == (K.n : Int) - 1) = false) (h0 : 0 ≤ fr) (hfn : fr < K.n)
    (hput : putL rec K.t now fr (K.t.1.length + 1) (fr + 1) = .ret ls) (hys : ∀ (j : Nat) y, ls[j]? = some y → K.ys[i + j]? = some y)
    (hrec : ∀ (now : List Int) (ls : List (List Int)) (i : Nat) (M1 : Mut) (W1 : World) (v : Value), K.At i M1 W1 → RepV M1 W1 (.list (.int .i64)) v now → rec now = .ret ls →
      (∀ (j : Nat) y, ls[j]? = some y → K.ys[i + j]? = some y) → Calls Tryz.prog 141 #[v, K.PT, K.PY, K.PX, K.PP] W1 fun r W2 =>
        (r = .returned (.bool true) ∧ ∃ M2, K.At (i + ls.length) M2 W2 ∧ Stable M1 W1 M2 W2) ∨ (r = .returned (.bool false) ∧ K.Jx W2)) :
    Calls Tryz.prog 141 #[.slice (some ⟨b, o, none⟩) (k + 1) cap, K.PT, K.PY, K.PX, K.PP] W1 fun r W2 =>
      (r = .returned (.bool true) ∧ ∃ M2, K.At (i + ls.length) M2 W2 ∧ Stable M1 W1 M2 W2) ∨ (r = .returned (.bool false) ∧ K.Jx W2) := by
  unfold Ctx.PT Ctx.PY Ctx.PX Ctx.PP
  go_enter Tryz.func141, Tryz.ntmps141
  go_wp2
  rename_i Kx hKx
  have hlen := len_of hK
  have hlI : lenI K.t.1 = (K.n : Int) := by rw [hlen]; rfl
  refine wp_loop (LI K i M1 W1 rec now (.slice (some ⟨b, o, none⟩) (k + 1) cap) fr (i + ls.length)) (fun a _ => (lenI K.t.1 - numOf (tm a 8)).toNat) ?_ ?_
  · exact ⟨rfl, rfl, rfl, rfl, rfl, rfl, rfl, rfl, fr + 1, _, i, M1, ls, rfl, by omega, by omega, hat, stable_refl _ _, hput, rfl, hys⟩
  · rintro a w ⟨l1, l2, l3, l4, l5, l6, l7, l8, t2, m, i', M2, ls', l9, l10, l11, hat2, hst, hput2, htot, hys2⟩
    have hcell2 : w.cell? ⟨K.bt, K.ot, none⟩ = some (.slice K.p K.n K.c) := (hat2.keep _ _ _ hK.cell.1 hK.cell.2).1
    have hv2 := hv.mono hst
    cases m with
    | zero => cases hput2
    | succ m =>
    unfold putL at hput2
    obtain ⟨tmps, defers⟩ := a
    obtain ⟨x0, x1, x2, x3, x4, x5, x6, x7, x8, x9, x10, x11, x12, x13, x14, x15, x16, x17, x18, x19, x20, x21, x22, x23, x24, x25, x26, x27, x28, x29, x30, x31, x32, x33, x34, x35, x36, x37, x38, x39, x40, x41, x42, x43, x44, x45, x46, x47, rfl⟩ := arr48 l1
    have l2 : defers = [] := l2
    have l3 : x0 = _ := l3
    have l4 : x1 = _ := l4
    have l5 : x2 = _ := l5
    have l6 : x3 = _ := l6
    have l7 : x4 = _ := l7
    have l8 : x7 = _ := l8
    have l9 : x8 = _ := l9
    unfold Ctx.PT at l4
    unfold Ctx.PY at l5
    unfold Ctx.PX at l6
    unfold Ctx.PP at l7
    subst l2 l3 l4 l5 l6 l7 l8 l9
    rw [hlI] at l11 hput2
    cases hlt : decide (t2 < (K.n : Int)) with
    | false =>
      rw [hlt] at hput2
      cases hput2
      have hlt' : ¬ t2 < (K.n : Int) := of_decide_eq_false hlt
      go_wp2
      simp [bodyPost, results, Tryz.results141, go_sem]
      have htot' : i' = i + ls.length := by simpa using htot
      exact ⟨M2, htot' ▸ hat2, hst⟩
    | true =>
      rw [hlt] at hput2
      have hlt' : t2 < (K.n : Int) := of_decide_eq_true hlt
      dsimp only at hput2
      cases hs : fsure K.t fr t2 with
      | pan p => rw [hs] at hput2; cases hput2
      | fail => rw [hs] at hput2; cases hput2
      | ret s =>
      rw [hs] at hput2
      dsimp only at hput2
      obtain ⟨l, r, hl, hr, hlr⟩ : ∃ l r, (s = true → rec (now ++ [t2]) = .ret l) ∧ putL rec K.t now fr m (t2 + 1) = .ret r ∧ ls' = (if s then l else []) ++ r := by
        cases s with
        | false => exact ⟨[], ls', fun h => (by cases h), hput2, rfl⟩
        | true =>
          dsimp only at hput2
          cases h1 : rec (now ++ [t2]) with
          | pan p => rw [h1] at hput2; cases hput2
          | fail => rw [h1] at hput2; cases hput2
          | ret l =>
            rw [h1] at hput2
            dsimp only at hput2
            cases h2 : putL rec K.t now fr m (t2 + 1) with
            | pan p => rw [h2] at hput2; cases hput2
            | fail => rw [h2] at hput2; cases hput2
            | ret r => rw [h2] at hput2; cases hput2; exact ⟨l, r, fun _ => rfl, rfl, rfl⟩
      go_wp2
      rename_i Ky hKy Kz hKz
      change (Code.region 7 ops7 true).wp Tryz.prog _ _ _
      apply region7_wp hK hat2 hv2 (by omega) hs (cnt := l.length)
      case hsz => rfl
      case hd => rfl
      case h0 => rfl
      case h3 => rfl
      case h4 => rfl
      case h7 => rfl
      case h8 => rfl
      case hput =>
        intro hst W2 u h1 h2
        refine hrec (now ++ [t2]) l i' M2 W2 u h1 h2 (hl hst) fun j y hj => hys2 j y ?_
        rw [hlr, hst, if_pos rfl, List.getElem?_append_left (List.getElem?_eq_some_iff.1 hj).1]
        exact hj
      case hQ =>
        intro a' W2 q1 q2 q3 q4
        refine hKz _ _ ?_
        obtain ⟨tmps, defers⟩ := a'
        obtain ⟨y0, y1, y2, y3, y4, y5, y6, y7, y8, y9, y10, y11, y12, y13, y14, y15, y16, y17, y18, y19, y20, y21, y22, y23, y24, y25, y26, y27, y28, y29, y30, y31, y32, y33, y34, y35, y36, y37, y38, y39, y40, y41, y42, y43, y44, y45, y46, y47, rfl⟩ := arr48 q1
        have q2 : defers = [] := q2
        have e0 : y0 = _ := q3 0 (by omega)
        have e1 : y1 = _ := q3 1 (by omega)
        have e2 : y2 = _ := q3 2 (by omega)
        have e3 : y3 = _ := q3 3 (by omega)
        have e4 : y4 = _ := q3 4 (by omega)
        have e7 : y7 = _ := q3 7 (by omega)
        have e8 : y8 = _ := q3 8 (by omega)
        subst q2 e0 e1 e2 e3 e4 e7 e8
        rcases q4 with ⟨hsf, e47, M3, h1, h2⟩ | ⟨hsf, e47, M3, h1, h2⟩ | ⟨hsf, e47, h1⟩
        · have e47 : y47 = _ := e47
          subst e47
          go_wp2
          refine ⟨⟨rfl, rfl, rfl, rfl, rfl, rfl, rfl, rfl, t2 + 1, m, i', M3, r, rfl, by omega, by rw [hlI]; omega, h1, hst.trans h2, hr, by rw [← htot, hlr, hsf]; simp, fun j y hj => hys2 j y (by rw [hlr, hsf]; simpa using hj)⟩, ?_⟩
          show max (_ - (t2 + 1)) 0 < _ - t2
          rw [← hlen]
          omega
        · have e47 : y47 = _ := e47
          subst e47
          go_wp2
          refine ⟨⟨rfl, rfl, rfl, rfl, rfl, rfl, rfl, rfl, t2 + 1, m, i' + l.length, M3, r, rfl, by omega, by rw [hlI]; omega, h1, hst.trans h2, hr, by rw [← htot, hlr, hsf, if_pos rfl, List.length_append]; omega, fun j y hj => by rw [Nat.add_assoc]; exact hys2 (l.length + j) y (by rw [hlr, hsf, if_pos rfl, List.getElem?_append_right (Nat.le_add_right _ _), Nat.add_sub_cancel_left]; exact hj)⟩, ?_⟩
          show max (_ - (t2 + 1)) 0 < _ - t2
          rw [← hlen]
          omega
        · have e47 : y47 = _ := e47
          subst e47
          go_wp2
          simp [bodyPost, results, Tryz.results141, go_sem]
          exact h1

set_option maxRecDepth 20000 in
theorem put_calls {K : Ctx} (hK : K.OK) : ∀ (n : Nat) (now : List Int) (ls : List (List Int)) (i : Nat) (M1 : Mut) (W1 : World) (v : Value), K.At i M1 W1 → RepV M1 W1 (.list (.int .i64)) v now → putN K.t n now = .ret ls →
    (∀ (j : Nat) y, ls[j]? = some y → K.ys[i + j]? = some y) → Calls Tryz.prog 141 #[v, K.PT, K.PY, K.PX, K.PP] W1 fun r W2 =>
      (r = .returned (.bool true) ∧ ∃ M2, K.At (i + ls.length) M2 W2 ∧ Stable M1 W1 M2 W2) ∨ (r = .returned (.bool false) ∧ K.Jx W2)
  | 0, _, _, _, _, _, _, _, _, h, _ => by cases h
  | n + 1, now, ls, i, M1, W1, v, hat, hv, hput, hys => by
    unfold putN at hput
    cases hg : (decide (1 ≤ now.length) && decide (now.length < 1000000) && decide (K.t.1.length < 1000000) && decide (0 ≤ now.getD (now.length - 1) 0) && decide (now.getD (now.length - 1) 0 < lenI K.t.1)) with
    | false => rw [hg] at hput; cases hput
    | true =>
    rw [hg] at hput
    simp only [Bool.and_eq_true, decide_eq_true_eq] at hg
    obtain ⟨⟨⟨⟨g1, g2⟩, g3⟩, g4⟩, g5⟩ := hg
    generalize hfr : now.getD (now.length - 1) 0 = fr at hput g4 g5
    obtain ⟨k, hk⟩ : ∃ k, now.length = k + 1 := ⟨now.length - 1, by omega⟩
    have hkn : now[k]? = some fr := by
      have : k < now.length := by omega
      rw [← hfr, show now.length - 1 = k by omega, List.getD_eq_getElem?_getD, List.getElem?_eq_getElem this]; rfl
    obtain ⟨vc, hvc, hvr⟩ := hv
    have hv1 := list_one hvc hvr
    obtain ⟨ad, cap, hvs, _, hcs⟩ := list_ints hv1
    obtain ⟨b, o, rfl, hc⟩ := hcs k fr hkn
    rw [hk] at hvs
    have hlen := len_of hK
    have hcell : W1.cell? ⟨K.bt, K.ot, none⟩ = some (.slice K.p K.n K.c) := (hat.keep _ _ _ hK.cell.1 hK.cell.2).1
    have hkk : k + 1 < 1000000 := by omega
    have hnn : K.n < 1000000 := by omega
    have hfn : fr < K.n := by rw [hlen]; exact g5
    have hv2 : RepV M1 W1 (.list (.int .i64)) v now := ⟨[v], rfl, hv1⟩
    cases hd : decide (fr = lenI K.t.1 - 1) with
    | true =>
      rw [hd] at hput
      cases hput
      have he : fr = (K.n : Int) - 1 := by rw [hlen]; exact of_decide_eq_true hd
      have heq : (fr == (K.n : Int) - 1) = true := by simpa using he
      have hy0 : K.ys[i]? = some now := hys 0 now rfl
      subst hvs
      exact put_last hK hat hv2 hkk hnn hc hcell heq hy0
    | false =>
      rw [hd] at hput
      have he : ¬ fr = (K.n : Int) - 1 := by rw [hlen]; exact of_decide_eq_false hd
      have heq : (fr == (K.n : Int) - 1) = false := by simpa using he
      subst hvs
      exact put_more hK hat hv2 hkk hk hnn hc hcell heq g4 hfn hput hys (put_calls hK n)
end Go.V
