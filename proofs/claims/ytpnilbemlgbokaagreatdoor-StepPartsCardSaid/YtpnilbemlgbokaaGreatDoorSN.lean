/- A part of the proof of a law of the step table. -/
import Derived.Test.YtpnilbemlgbokaaGreatDoorSM
import Derived.Test.YtpnilbemlgbokaaGreatDoorSD
import Derived.Tactics
import Derived.Tactics2
import Derived.WalkKit
set_option linter.all false
/- step.(table).sure, with its map. -/
namespace Go.V
open Go.Proofs
open Go.RowKit (Below)

/-- The marks of loops that have been gone through are taken away. -/
theorem leave_marks {P : Program} {fn : Func} {n : Nat} {tmps : Array Value} {R : Ending → World → Prop} {mode : FrameMode} (hmode : mode ≠ .run) {q : Nat → Prop} :
    ∀ (ds : List Deferred) (w : World), Marks q w ds → (∀ w2, Fr (fun k => ¬ q k) w w2 → LeavesIn Fence.wide n P fn tmps R [] mode w2) → LeavesInM Fence.wide n P fn tmps R ds mode w
  | [], w, _, hR => hR w (Fr.refl _ _)
  | d :: ds, w, ⟨⟨D, e, hD, hq⟩, hne, hrest⟩, hR => by
    have hoth : ∀ k, k ≠ D → (w.putObj D (.deferred none)).heap[k]? = w.heap[k]? := fun k hk => World.putObj_heap_other hk
    have hmk : ∀ ds' : List Deferred, (∀ d' ∈ ds', d' ≠ d) → Marks q w ds' → Marks q (w.putObj D (.deferred none)) ds' := by
      intro ds'
      induction ds' with
      | nil => intro _ _; trivial
      | cons d1 ds' ih =>
        rintro h1 ⟨⟨D1, f1, f2, f3⟩, f4, f5⟩
        refine ⟨⟨D1, f1, ?_, f3⟩, f4, ih (fun d' hd' => h1 d' (by simp [hd'])) f5⟩
        rw [hoth D1 fun e' => by subst e'; exact h1 d1 (by simp) (f1.trans e.symm)]; exact f2
    have hfr : Fr (fun k => ¬ q k) w (w.putObj D (.deferred none)) := ⟨rfl, rfl, rfl, by simp, fun k hk => hoth k fun e' => hk (e' ▸ hq)⟩
    refine ⟨hmode, .inl ⟨D, w.putObj D (.deferred none), by rw [e], run_takeDeferred hD, ?_⟩⟩
    exact leave_marks hmode ds _ (hmk ds hne hrest) fun w2 h2 => hR w2 (hfr.trans h2)

abbrev ST : Type := List (Int × Int × Unit) × Int × Int × Unit

noncomputable def specs142 : List Spec := [sp100]
theorem specs142_ok : ∀ sp ∈ specs142, Contract Tryz.prog sp := all_cons c100 all_nil
def hints142 : List (Nat × List Nat) := [(6, [2, 3, 7, 8])]
/-- The body of the loop. -/
noncomputable def findLoop : Code → Option Code
  | .seq a b => (match findLoop a with | some c => some c | none => findLoop b)
  | .block _ b => findLoop b
  | .scope b => findLoop b
  | .cond _ a b => (match findLoop a with | some c => some c | none => findLoop b)
  | .loop b => some b
  | _ => none
noncomputable def body142 : Code := match findLoop (bodyOf Tryz.f142) with | some b => b | none => .skip
noncomputable def loop142 : Code := .loop body142

def st142 (t : ST) (mv : Value) (a b i : Int) (s : Bool) : St :=
  [.und, .und, .box [.d (.list (.prod (.int .i64) (.prod (.int .i64) .unit))) t.1, .d (.int .i64) t.2.1, .d (.int .i64) t.2.2.1, .d (.list (.int .i64)) [], .d .raw mv],
    .box [.d (.int .i64) a, .d (.int .i64) b], .und, .und, .und, .d .bool s, .d (.int .i64) i, .und, .und, .und, .und, .und, .und, .und, .und, .und, .und, .und, .und, .und, .und, .und, .und, .und, .und, .und, .und, .und, .und, .und, .und, .und, .und, .und, .und, .und, .und, .und]

/-- What is to be known behind the loop. -/
def k142 : X → St → Out (Bool × Value × Int × Int) := fun x st => match x with
  | .exit 0 => (match get st 7 with
    | .d .bool s => (match get st 2 with
      | .box [_, _, _, _, .d .raw mv] => (match get st 3 with
        | .box [.d (.int .i64) a, .d (.int .i64) b] => bif st.length == 40 then .ret (s, mv, a, b) else .fail
        | _ => .fail)
      | _ => .fail)
    | _ => .fail)
  | _ => .fail

noncomputable def L142 (N n : Nat) (t : ST) (mv : Value) (a b i : Int) (s : Bool) : Out (Bool × Value × Int × Int) :=
  rounds Tryz.prog (phi specs142) hints142 N body142 (some [2, 3]) k142 n (st142 t mv a b i s)

theorem L142_succ (N n : Nat) (t : ST) (mv : Value) (a b i : Int) (s : Bool) : L142 N (n + 1) t mv a b i s =
    (match decide (i < b) with
    | true => (match f100 ((t, ([], ((), ()))), ((a, (b, ())), (i, ()))) with
      | .ret r => (match decide (r > t.2.2.1) with
        | true => L142 N n t mv a b (IntKind.i64.wrap (i + (1 : Int))) false
        | false => L142 N n t mv a b (IntKind.i64.wrap (i + (1 : Int))) s)
      | .pan _ => .fail
      | .fail => .fail)
    | false => .ret (s, mv, a, b) : Out (Bool × Value × Int × Int)) := by
  kernel_rfl
theorem v142 (N : Nat) (t : ST) (mv : Value) (a b i : Int) (s : Bool) : vexec Tryz.prog (phi specs142) hints142 N loop142 (some [2, 3]) k142 (st142 t mv a b i s) = L142 N N t mv a b i s := by
  kernel_rfl

noncomputable def sureN (t : ST) (a b : Int) : Nat → Int → Bool → Out Bool
  | 0, _, _ => .fail
  | n + 1, i, s => match decide (i < b) with
    | true => (match f100 ((t, ([], ((), ()))), ((a, (b, ())), (i, ()))) with
      | .ret r => (match decide (r > t.2.2.1) with
        | true => sureN t a b n (IntKind.i64.wrap (i + (1 : Int))) false
        | false => sureN t a b n (IntKind.i64.wrap (i + (1 : Int))) s)
      | _ => .fail)
    | false => .ret s
theorem sureN_L {N : Nat} {t : ST} {mv : Value} {a b : Int} {r : Bool} : ∀ (n : Nat) (i : Int) (s : Bool), sureN t a b n i s = .ret r → L142 N n t mv a b i s = .ret (r, mv, a, b)
  | 0, _, _, h => by cases h
  | n + 1, i, s, h => by
    rw [L142_succ]
    unfold sureN at h
    cases h1 : decide (i < b) with
    | false => rw [h1] at h; cases h; rfl
    | true =>
      rw [h1] at h
      dsimp only at h ⊢
      cases h2 : f100 ((t, ([], ((), ()))), ((a, (b, ())), (i, ()))) with
      | pan p => rw [h2] at h; cases h
      | fail => rw [h2] at h; cases h
      | ret r1 =>
        rw [h2] at h
        dsimp only at h ⊢
        cases h3 : decide (r1 > t.2.2.1) with
        | true => rw [h3] at h; exact sureN_L n _ _ h
        | false => rw [h3] at h; exact sureN_L n _ _ h

/-- Whether all rows between two surely are right. -/
noncomputable def fsure (t : ST) (a b : Int) : Out Bool := bif rng a && rng b then sureN t a b fuel (IntKind.i64.wrap (a + 1)) true else .fail
theorem fsure_ret {t : ST} {a b : Int} {s : Bool} (h : fsure t a b = .ret s) : rng a = true ∧ rng b = true ∧ sureN t a b fuel (IntKind.i64.wrap (a + 1)) true = .ret s := by
  unfold fsure at h
  cases hc : rng a && rng b with
  | false => rw [hc] at h; cases h
  | true =>
    rw [hc] at h
    rw [Bool.and_eq_true] at hc
    exact ⟨hc.1, hc.2, h⟩

theorem list_cons {α : Type} {l : List α} {n : Nat} (h : l.length = n + 1) : ∃ x l', l = x :: l' ∧ l'.length = n := by
  cases l with
  | nil => cases h
  | cons x l' => exact ⟨x, l', rfl, by simpa using h⟩
theorem arr40 {xs : Array Value} (h : xs.size = 40) : ∃ x0 x1 x2 x3 x4 x5 x6 x7 x8 x9 x10 x11 x12 x13 x14 x15 x16 x17 x18 x19 x20 x21 x22 x23 x24 x25 x26 x27 x28 x29 x30 x31 x32 x33 x34 x35 x36 x37 x38 x39 : Value, xs = #[x0, x1, x2, x3, x4, x5, x6, x7, x8, x9, x10, x11, x12, x13, x14, x15, x16, x17, x18, x19, x20, x21, x22, x23, x24, x25, x26, x27, x28, x29, x30, x31, x32, x33, x34, x35, x36, x37, x38, x39] := by
  obtain ⟨l⟩ := xs
  have h0 : l.length = 40 := h
  clear h
  obtain ⟨x0, l, rfl, h1⟩ := list_cons h0
  clear h0
  obtain ⟨x1, l, rfl, h2⟩ := list_cons h1
  clear h1
  obtain ⟨x2, l, rfl, h3⟩ := list_cons h2
  clear h2
  obtain ⟨x3, l, rfl, h4⟩ := list_cons h3
  clear h3
  obtain ⟨x4, l, rfl, h5⟩ := list_cons h4
  clear h4
  obtain ⟨x5, l, rfl, h6⟩ := list_cons h5
  clear h5
  obtain ⟨x6, l, rfl, h7⟩ := list_cons h6
  clear h6
  obtain ⟨x7, l, rfl, h8⟩ := list_cons h7
  clear h7
  obtain ⟨x8, l, rfl, h9⟩ := list_cons h8
  clear h8
  obtain ⟨x9, l, rfl, h10⟩ := list_cons h9
  clear h9
  obtain ⟨x10, l, rfl, h11⟩ := list_cons h10
  clear h10
  obtain ⟨x11, l, rfl, h12⟩ := list_cons h11
  clear h11
  obtain ⟨x12, l, rfl, h13⟩ := list_cons h12
  clear h12
  obtain ⟨x13, l, rfl, h14⟩ := list_cons h13
  clear h13
  obtain ⟨x14, l, rfl, h15⟩ := list_cons h14
  clear h14
  obtain ⟨x15, l, rfl, h16⟩ := list_cons h15
  clear h15
  obtain ⟨x16, l, rfl, h17⟩ := list_cons h16
  clear h16
  obtain ⟨x17, l, rfl, h18⟩ := list_cons h17
  clear h17
  obtain ⟨x18, l, rfl, h19⟩ := list_cons h18
  clear h18
  obtain ⟨x19, l, rfl, h20⟩ := list_cons h19
  clear h19
  obtain ⟨x20, l, rfl, h21⟩ := list_cons h20
  clear h20
  obtain ⟨x21, l, rfl, h22⟩ := list_cons h21
  clear h21
  obtain ⟨x22, l, rfl, h23⟩ := list_cons h22
  clear h22
  obtain ⟨x23, l, rfl, h24⟩ := list_cons h23
  clear h23
  obtain ⟨x24, l, rfl, h25⟩ := list_cons h24
  clear h24
  obtain ⟨x25, l, rfl, h26⟩ := list_cons h25
  clear h25
  obtain ⟨x26, l, rfl, h27⟩ := list_cons h26
  clear h26
  obtain ⟨x27, l, rfl, h28⟩ := list_cons h27
  clear h27
  obtain ⟨x28, l, rfl, h29⟩ := list_cons h28
  clear h28
  obtain ⟨x29, l, rfl, h30⟩ := list_cons h29
  clear h29
  obtain ⟨x30, l, rfl, h31⟩ := list_cons h30
  clear h30
  obtain ⟨x31, l, rfl, h32⟩ := list_cons h31
  clear h31
  obtain ⟨x32, l, rfl, h33⟩ := list_cons h32
  clear h32
  obtain ⟨x33, l, rfl, h34⟩ := list_cons h33
  clear h33
  obtain ⟨x34, l, rfl, h35⟩ := list_cons h34
  clear h34
  obtain ⟨x35, l, rfl, h36⟩ := list_cons h35
  clear h35
  obtain ⟨x36, l, rfl, h37⟩ := list_cons h36
  clear h36
  obtain ⟨x37, l, rfl, h38⟩ := list_cons h37
  clear h37
  obtain ⟨x38, l, rfl, h39⟩ := list_cons h38
  clear h38
  obtain ⟨x39, l, rfl, h40⟩ := list_cons h39
  clear h39
  have h : l = [] := List.eq_nil_of_length_eq_zero h40
  subst h
  exact ⟨x0, x1, x2, x3, x4, x5, x6, x7, x8, x9, x10, x11, x12, x13, x14, x15, x16, x17, x18, x19, x20, x21, x22, x23, x24, x25, x26, x27, x28, x29, x30, x31, x32, x33, x34, x35, x36, x37, x38, x39, rfl⟩

theorem k142_ret {x : X} {st : St} {r : Bool × Value × Int × Int} (h : k142 x st = .ret r) : x = .exit 0 ∧ st.length = 40 ∧ get st 7 = .d .bool r.1 ∧ (∃ c1 c2 c3 c4, get st 2 = .box [c1, c2, c3, c4, .d .raw r.2.1]) ∧ get st 3 = .box [.d (.int .i64) r.2.2.1, .d (.int .i64) r.2.2.2] := by
  unfold k142 at h
  split at h
  rotate_left
  · cases h
  split at h
  rotate_left
  · cases h
  rename_i s h7
  split at h
  rotate_left
  · cases h
  rename_i c1 c2 c3 c4 mv h2
  split at h
  rotate_left
  · cases h
  rename_i a b h3
  cases hl : st.length == 40 with
  | false => rw [hl] at h; cases h
  | true =>
    rw [hl] at h; cases h
    exact ⟨rfl, by simpa using hl, h7, ⟨c1, c2, c3, c4, h2⟩, h3⟩
end Go.V
