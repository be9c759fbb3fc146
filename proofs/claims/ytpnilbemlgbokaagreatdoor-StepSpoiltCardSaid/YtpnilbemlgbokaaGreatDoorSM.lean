/- A part of the proof of a law of the step table. -/
import Derived.Test.YtpnilbemlgbokaaGreatDoorSB
import Derived.Test.YtpnilbemlgbokaaGreatDoorVI
import Derived.Maps.Keyed
import Derived.DeepKeys4
import Derived.Test.YtpnilbemlgbokaaGreatDoorSD
import Derived.Tactics
import Derived.Tactics2
import Derived.WalkKit
set_option linter.all false
namespace Go.V
open Go.Proofs
open Go.RowKit (Below)
theorem laidOut : laidOutB Tryz.prog = true := by kernel_rfl
theorem law116 : Maps.Keyed Tryz.prog 116 := Maps.Keyed.of_law (deep_law_laid laidOut (m := 2) (by omega) (of_decide_eq_true (by kernel_rfl)) (by kernel_rfl) (by kernel_rfl))
def pairV (a b : Int) : Value := .agg #[.int .i64 a, .int .i64 b]
def rng (n : Int) : Bool := decide (-9223372036854775808 ≤ n) && decide (n ≤ 9223372036854775807)
theorem rng_wf {n : Int} (h : rng n = true) : (Lit.int .i64 n).wf = true := by
  simp only [rng, Bool.and_eq_true, decide_eq_true_eq] at h
  have h1 : IntKind.min .i64 = -9223372036854775808 := rfl
  have h2 : IntKind.max .i64 = 9223372036854775807 := rfl
  simp [Lit.wf, h1, h2, h]
theorem und116 : Tryz.prog.underlying 116 = some (.struct ((Tryz.prog.underlying 116).elim #[] fun d => match d with | .struct fs => fs | _ => #[])) := by kernel_rfl
def keyOne (n : Int) : Option (List Lit) := if IntKind.i64 = IntKind.i64 ∧ (Lit.int .i64 n).wf = true then some [Lit.int .i64 n] else none
theorem kl116 (a b : Int) : Tryz.prog.keyLits (Tryz.prog.types.size + 1) 116 (pairV a b).cells.toList = (([keyOne a, keyOne b]).mapM id).map List.flatten := by kernel_rfl
theorem kf116 (a b : Int) : (Tryz.prog.keyType 116 && (pairV a b).formed Tryz.prog 116) = true := by kernel_rfl
theorem key116 {a b : Int} (ha : rng a = true) (hb : rng b = true) : ∃ l, keyOf Tryz.prog 116 (pairV a b) = some l := by
  have h1 := rng_wf ha
  have h2 := rng_wf hb
  unfold keyOf
  rw [und116, kf116, kl116]
  simp [keyOne, h1, h2]
def Memo (S : Int → Int → Bool → Prop) (es : Array MapEntry) : Prop :=
  ∀ e ∈ es.toList, ∃ a b s, rng a = true ∧ rng b = true ∧ e.key = pairV a b ∧ e.val = .bool s ∧ S a b s
theorem pairV_inj {a b a' b' : Int} (h : pairV a b = pairV a' b') : a = a' ∧ b = b' := by
  simp only [pairV, Value.agg.injEq] at h
  have h1 := congrArg (·.toList) h
  simp at h1
  exact h1
theorem memo_keys {S : Int → Int → Bool → Prop} {es : Array MapEntry} (h : Memo S es) : ∀ e ∈ es.toList, ∃ l, keyOf Tryz.prog 116 e.key = some l := fun e he => by
  obtain ⟨a, b, s, ha, hb, hk, _⟩ := h e he
  rw [hk]; exact key116 ha hb
theorem und97 : Tryz.prog.underlying 97 = some (.map 116 4) := by kernel_rfl
theorem zero4 (w : World) : (zeroValue 4).run Tryz.prog w = .ok (.bool false) w := by kernel_rfl
theorem memo_look {S : Int → Int → Bool → Prop} {es : Array MapEntry} {clock bm : Nat} {w : World} {a b : Int} (hb : w.heap[bm]? = some (.map es clock)) (hm : Memo S es) (h1 : rng a = true) (h2 : rng b = true) :
    ∃ s m : Bool, (Instr.lookup 97 (.map (some bm)) (pairV a b) true).run Tryz.prog w = .ok (.tuple #[.bool s, .bool m]) w ∧ (m = true → S a b s) := by
  obtain ⟨l, hl⟩ := key116 h1 h2
  rcases law116.find w hl es.toList (memo_keys hm) with ⟨g1, g2⟩ | ⟨j, e0, g1, g2, g3⟩
  · refine ⟨false, false, ?_, fun h => by cases h⟩
    simp [Instr.lookup, run_underlying und97, MapKept.run_getObj_map hb, law116.check w _ hl, g1, zero4, Result.andThen]
  · obtain ⟨a', b', s, _, _, hk, hv, hS⟩ := hm e0 (List.mem_of_getElem? g2)
    obtain ⟨rfl, rfl⟩ := pairV_inj (hk.symm.trans g3)
    refine ⟨s, true, ?_, fun _ => hS⟩
    simp [Instr.lookup, run_underlying und97, MapKept.run_getObj_map hb, law116.check w _ hl, g1, Result.andThen, hv]
theorem memo_put {S : Int → Int → Bool → Prop} {es : Array MapEntry} {clock bm : Nat} {w : World} {a b : Int} {s : Bool} (hb : w.heap[bm]? = some (.map es clock)) (hm : Memo S es) (h1 : rng a = true) (h2 : rng b = true) (hS : S a b s) :
    ∃ es' clock', (Instr.mapUpdate 97 (.map (some bm)) (pairV a b) (.bool s)).run Tryz.prog w = .ok () (w.putObj bm (.map es' clock')) ∧ Memo S es' := by
  obtain ⟨l, hl⟩ := key116 h1 h2
  rcases law116.find w hl es.toList (memo_keys hm) with ⟨g1, g2⟩ | ⟨j, e0, g1, g2, g3⟩
  · refine ⟨es.push ⟨pairV a b, .bool s, clock⟩, clock + 1, ?_, ?_⟩
    · simp [Instr.mapUpdate, run_underlying und97, MapKept.run_getObj_map hb, law116.check w false hl, g1, MapKept.run_setObj_map _ hb, Result.andThen, World.putObj]
    · intro e he
      simp only [Array.toList_push, List.mem_append, List.mem_singleton] at he
      rcases he with he | rfl
      · exact hm e he
      · exact ⟨a, b, s, h1, h2, rfl, rfl, hS⟩
  · have hj : es[j]? = some e0 := by simpa using g2
    refine ⟨es.modify j fun e => { e with key := pairV a b, val := .bool s }, clock, ?_, ?_⟩
    · simp [Instr.mapUpdate, run_underlying und97, MapKept.run_getObj_map hb, law116.check w false hl, g1, hj, g3, law116.stays w hl, MapKept.run_setObj_map _ hb, Result.andThen, World.putObj]
    · intro e he
      obtain ⟨i, hi⟩ := List.mem_iff_getElem?.1 he
      have hi' : (es.modify j fun e => { e with key := pairV a b, val := .bool s })[i]? = some e := by rw [← Array.getElem?_toList]; exact hi
      rw [Array.getElem?_modify] at hi'
      split at hi'
      · cases hx : es[i]? with
        | none => rw [hx] at hi'; cases hi'
        | some e1 => rw [hx] at hi'; cases hi'; exact ⟨a, b, s, h1, h2, rfl, rfl, hS⟩
      · exact hm e (List.mem_of_getElem? (by simpa using hi'))
end Go.V
namespace Go.V
open Go.Proofs
open Go.RowKit (Below)
theorem leave_marks {P : Program} {fn : Func} {n : Nat} {tmps : Array Value} {R : Ending → World → Prop} {mode : FrameMode} (hmode : mode ≠ .run) {q : Nat → Prop} :
    ∀ (ds : List Deferred) (w : World), Marks q w ds → (∀ w2, Fr (fun k => ¬ q k) w w2 → LeavesIn Fence.wide n P fn tmps R [] mode w2) → LeavesInM Fence.wide n P fn tmps R ds mode w
  | [], w, _, hR => hR w (Fr.refl _ _)
  | d :: ds, w, ⟨⟨D, e, hD, hq⟩, hne, hrest⟩, hR => by
    have hoth : ∀ k, k ≠ D → (w.putObj D (.deferred none)).heap[k]? = w.heap[k]? := fun k hk => World.putObj_heap_other hk
    have hmk : ∀ ds' : List Deferred, (∀ d' ∈ ds', d' ≠ d) → Marks q w ds' → Marks q (w.putObj D (.deferred none)) ds' := by
      intro ds'
      induction ds' with
      | nil => intro _ _; trivial
      | cons d1 ds' ih =>
        rintro h1 ⟨⟨D1, f1, f2, f3⟩, f4, f5⟩
        refine ⟨⟨D1, f1, ?_, f3⟩, f4, ih (fun d' hd' => h1 d' (by simp [hd'])) f5⟩
        rw [hoth D1 fun e' => by subst e'; exact h1 d1 (by simp) (f1.trans e.symm)]; exact f2
    have hfr : Fr (fun k => ¬ q k) w (w.putObj D (.deferred none)) := ⟨rfl, rfl, rfl, by simp, fun k hk => hoth k fun e' => hk (e' ▸ hq)⟩
    refine ⟨hmode, .inl ⟨D, w.putObj D (.deferred none), by rw [e], run_takeDeferred hD, ?_⟩⟩
    exact leave_marks hmode ds _ (hmk ds hne hrest) fun w2 h2 => hR w2 (hfr.trans h2)
abbrev ST : Type := List (Int × Int × Unit) × Int × Int × Unit
noncomputable def specs142 : List Spec := [sp100]
theorem specs142_ok : ∀ sp ∈ specs142, Contract Tryz.prog sp := all_cons c100 all_nil
def hints142 : List (Nat × List Nat) := [(6, [2, 3, 7, 8])]
noncomputable def findLoop : Code → Option Code
  | .seq a b => (match findLoop a with | some c => some c | none => findLoop b)
  | .block _ b => findLoop b
  | .scope b => findLoop b
  | .cond _ a b => (match findLoop a with | some c => some c | none => findLoop b)
  | .loop b => some b
  | _ => none
noncomputable def body142 : Code := match findLoop (bodyOf Tryz.f142) with | some b => b | none => .skip
noncomputable def loop142 : Code := .loop body142
def st142 (t : ST) (mv : Value) (a b i : Int) (s : Bool) : St :=
  [.und, .und, .box [.d (.list (.prod (.int .i64) (.prod (.int .i64) .unit))) t.1, .d (.int .i64) t.2.1, .d (.int .i64) t.2.2.1, .d (.list (.int .i64)) [], .d .raw mv],
    .box [.d (.int .i64) a, .d (.int .i64) b], .und, .und, .und, .d .bool s, .d (.int .i64) i, .und, .und, .und, .und, .und, .und, .und, .und, .und, .und, .und, .und, .und, .und, .und, .und, .und, .und, .und, .und, .und, .und, .und, .und, .und, .und, .und, .und, .und, .und, .und]
def k142 : X → St → Out (Bool × Value × Int × Int) := fun x st => match x with
  | .exit 0 => (match get st 7 with
    | .d .bool s => (match get st 2 with
      | .box [_, _, _, _, .d .raw mv] => (match get st 3 with
        | .box [.d (.int .i64) a, .d (.int .i64) b] => bif st.length == 40 then .ret (s, mv, a, b) else .fail
        | _ => .fail)
      | _ => .fail)
    | _ => .fail)
  | _ => .fail
noncomputable def L142 (N n : Nat) (t : ST) (mv : Value) (a b i : Int) (s : Bool) : Out (Bool × Value × Int × Int) :=
  rounds Tryz.prog (phi specs142) hints142 N body142 (some [2, 3]) k142 n (st142 t mv a b i s)
theorem L142_succ (N n : Nat) (t : ST) (mv : Value) (a b i : Int) (s : Bool) : L142 N (n + 1) t mv a b i s =
    (match decide (i < b) with
    | true => (match f100 ((t, ([], ((), ()))), ((a, (b, ())), (i, ()))) with
      | .ret r => (match decide (r > t.2.2.1) with
        | true => L142 N n t mv a b (IntKind.i64.wrap (i + (1 : Int))) false
        | false => L142 N n t mv a b (IntKind.i64.wrap (i + (1 : Int))) s)
      | .pan _ => .fail
      | .fail => .fail)
    | false => .ret (s, mv, a, b) : Out (Bool × Value × Int × Int)) := by
  kernel_rfl
theorem v142 (N : Nat) (t : ST) (mv : Value) (a b i : Int) (s : Bool) : vexec Tryz.prog (phi specs142) hints142 N loop142 (some [2, 3]) k142 (st142 t mv a b i s) = L142 N N t mv a b i s := by
  kernel_rfl
noncomputable def sureN (t : ST) (a b : Int) : Nat → Int → Bool → Out Bool
  | 0, _, _ => .fail
  | n + 1, i, s => match decide (i < b) with
    | true => (match f100 ((t, ([], ((), ()))), ((a, (b, ())), (i, ()))) with
      | .ret r => (match decide (r > t.2.2.1) with
        | true => sureN t a b n (IntKind.i64.wrap (i + (1 : Int))) false
        | false => sureN t a b n (IntKind.i64.wrap (i + (1 : Int))) s)
      | _ => .fail)
    | false => .ret s
theorem sureN_L {N : Nat} {t : ST} {mv : Value} {a b : Int} {r : Bool} : ∀ (n : Nat) (i : Int) (s : Bool), sureN t a b n i s = .ret r → L142 N n t mv a b i s = .ret (r, mv, a, b)
  | 0, _, _, h => by cases h
  | n + 1, i, s, h => by
    rw [L142_succ]
    unfold sureN at h
    cases h1 : decide (i < b) with
    | false => rw [h1] at h; cases h; rfl
    | true =>
      rw [h1] at h
      dsimp only at h ⊢
      cases h2 : f100 ((t, ([], ((), ()))), ((a, (b, ())), (i, ()))) with
      | pan p => rw [h2] at h; cases h
      | fail => rw [h2] at h; cases h
      | ret r1 =>
        rw [h2] at h
        dsimp only at h ⊢
        cases h3 : decide (r1 > t.2.2.1) with
        | true => rw [h3] at h; exact sureN_L n _ _ h
        | false => rw [h3] at h; exact sureN_L n _ _ h
noncomputable def fsure (t : ST) (a b : Int) : Out Bool := bif rng a && rng b then sureN t a b fuel (IntKind.i64.wrap (a + 1)) true else .fail
theorem fsure_ret {t : ST} {a b : Int} {s : Bool} (h : fsure t a b = .ret s) : rng a = true ∧ rng b = true ∧ sureN t a b fuel (IntKind.i64.wrap (a + 1)) true = .ret s := by
  unfold fsure at h
  cases hc : rng a && rng b with
  | false => rw [hc] at h; cases h
  | true =>
    rw [hc] at h
    rw [Bool.and_eq_true] at hc
    exact ⟨hc.1, hc.2, h⟩
theorem list_cons {α : Type} {l : List α} {n : Nat} (h : l.length = n + 1) : ∃ x l', l = x :: l' ∧ l'.length = n := by
  cases l with
  | nil => cases h
  | cons x l' => exact ⟨x, l', rfl, by simpa using h⟩
theorem arr40 {xs : Array Value} (h : xs.size = 40) : ∃ x0 x1 x2 x3 x4 x5 x6 x7 x8 x9 x10 x11 x12 x13 x14 x15 x16 x17 x18 x19 x20 x21 x22 x23 x24 x25 x26 x27 x28 x29 x30 x31 x32 x33 x34 x35 x36 x37 x38 x39 : Value, xs = #[x0, x1, x2, x3, x4, x5, x6, x7, x8, x9, x10, x11, x12, x13, x14, x15, x16, x17, x18, x19, x20, x21, x22, x23, x24, x25, x26, x27, x28, x29, x30, x31, x32, x33, x34, x35, x36, x37, x38, x39] := by
  obtain ⟨l⟩ := xs
  have h0 : l.length = 40 := h
  clear h
  obtain ⟨x0, l, rfl, h1⟩ := list_cons h0
  clear h0
  obtain ⟨x1, l, rfl, h2⟩ := list_cons h1
  clear h1
  obtain ⟨x2, l, rfl, h3⟩ := list_cons h2
  clear h2
  obtain ⟨x3, l, rfl, h4⟩ := list_cons h3
  clear h3
  obtain ⟨x4, l, rfl, h5⟩ := list_cons h4
  clear h4
  obtain ⟨x5, l, rfl, h6⟩ := list_cons h5
  clear h5
  obtain ⟨x6, l, rfl, h7⟩ := list_cons h6
  clear h6
  obtain ⟨x7, l, rfl, h8⟩ := list_cons h7
  clear h7
  obtain ⟨x8, l, rfl, h9⟩ := list_cons h8
  clear h8
  obtain ⟨x9, l, rfl, h10⟩ := list_cons h9
  clear h9
  obtain ⟨x10, l, rfl, h11⟩ := list_cons h10
  clear h10
  obtain ⟨x11, l, rfl, h12⟩ := list_cons h11
  clear h11
  obtain ⟨x12, l, rfl, h13⟩ := list_cons h12
  clear h12
  obtain ⟨x13, l, rfl, h14⟩ := list_cons h13
  clear h13
  obtain ⟨x14, l, rfl, h15⟩ := list_cons h14
  clear h14
  obtain ⟨x15, l, rfl, h16⟩ := list_cons h15
  clear h15
  obtain ⟨x16, l, rfl, h17⟩ := list_cons h16
  clear h16
  obtain ⟨x17, l, rfl, h18⟩ := list_cons h17
  clear h17
  obtain ⟨x18, l, rfl, h19⟩ := list_cons h18
  clear h18
  obtain ⟨x19, l, rfl, h20⟩ := list_cons h19
  clear h19
  obtain ⟨x20, l, rfl, h21⟩ := list_cons h20
  clear h20
  obtain ⟨x21, l, rfl, h22⟩ := list_cons h21
  clear h21
  obtain ⟨x22, l, rfl, h23⟩ := list_cons h22
  clear h22
  obtain ⟨x23, l, rfl, h24⟩ := list_cons h23
  clear h23
  obtain ⟨x24, l, rfl, h25⟩ := list_cons h24
  clear h24
  obtain ⟨x25, l, rfl, h26⟩ := list_cons h25
  clear h25
  obtain ⟨x26, l, rfl, h27⟩ := list_cons h26
  clear h26
  obtain ⟨x27, l, rfl, h28⟩ := list_cons h27
  clear h27
  obtain ⟨x28, l, rfl, h29⟩ := list_cons h28
  clear h28
  obtain ⟨x29, l, rfl, h30⟩ := list_cons h29
  clear h29
  obtain ⟨x30, l, rfl, h31⟩ := list_cons h30
  clear h30
  obtain ⟨x31, l, rfl, h32⟩ := list_cons h31
  clear h31
  obtain ⟨x32, l, rfl, h33⟩ := list_cons h32
  clear h32
  obtain ⟨x33, l, rfl, h34⟩ := list_cons h33
  clear h33
  obtain ⟨x34, l, rfl, h35⟩ := list_cons h34
  clear h34
  obtain ⟨x35, l, rfl, h36⟩ := list_cons h35
  clear h35
  obtain ⟨x36, l, rfl, h37⟩ := list_cons h36
  clear h36
  obtain ⟨x37, l, rfl, h38⟩ := list_cons h37
  clear h37
  obtain ⟨x38, l, rfl, h39⟩ := list_cons h38
  clear h38
  obtain ⟨x39, l, rfl, h40⟩ := list_cons h39
  clear h39
  have h : l = [] := List.eq_nil_of_length_eq_zero h40
  subst h
  exact ⟨x0, x1, x2, x3, x4, x5, x6, x7, x8, x9, x10, x11, x12, x13, x14, x15, x16, x17, x18, x19, x20, x21, x22, x23, x24, x25, x26, x27, x28, x29, x30, x31, x32, x33, x34, x35, x36, x37, x38, x39, rfl⟩
theorem k142_ret {x : X} {st : St} {r : Bool × Value × Int × Int} (h : k142 x st = .ret r) : x = .exit 0 ∧ st.length = 40 ∧ get st 7 = .d .bool r.1 ∧ (∃ c1 c2 c3 c4, get st 2 = .box [c1, c2, c3, c4, .d .raw r.2.1]) ∧ get st 3 = .box [.d (.int .i64) r.2.2.1, .d (.int .i64) r.2.2.2] := by
  unfold k142 at h
  split at h
  rotate_left
  · cases h
  split at h
  rotate_left
  · cases h
  rename_i s h7
  split at h
  rotate_left
  · cases h
  rename_i c1 c2 c3 c4 mv h2
  split at h
  rotate_left
  · cases h
  rename_i a b h3
  cases hl : st.length == 40 with
  | false => rw [hl] at h; cases h
  | true =>
    rw [hl] at h; cases h
    exact ⟨rfl, by simpa using hl, h7, ⟨c1, c2, c3, c4, h2⟩, h3⟩
end Go.V
namespace Go.V
open Go.Proofs
open Go.RowKit (Below)
theorem get_st142 {t : ST} {mv : Value} {a b i0 : Int} {s : Bool} : ∀ (i : Nat), i ≠ 2 → i ≠ 3 → i ≠ 7 → i ≠ 8 → get (st142 t mv a b i0 s) i = .und := by
  intro i h2 h3 h7 h8
  exact match i, h2, h3, h7, h8 with
    | 0, h2, h3, h7, h8 => rfl
    | 1, h2, h3, h7, h8 => rfl
    | 2, h2, h3, h7, h8 => absurd rfl h2
    | 3, h2, h3, h7, h8 => absurd rfl h3
    | 4, h2, h3, h7, h8 => rfl
    | 5, h2, h3, h7, h8 => rfl
    | 6, h2, h3, h7, h8 => rfl
    | 7, h2, h3, h7, h8 => absurd rfl h7
    | 8, h2, h3, h7, h8 => absurd rfl h8
    | 9, h2, h3, h7, h8 => rfl
    | 10, h2, h3, h7, h8 => rfl
    | 11, h2, h3, h7, h8 => rfl
    | 12, h2, h3, h7, h8 => rfl
    | 13, h2, h3, h7, h8 => rfl
    | 14, h2, h3, h7, h8 => rfl
    | 15, h2, h3, h7, h8 => rfl
    | 16, h2, h3, h7, h8 => rfl
    | 17, h2, h3, h7, h8 => rfl
    | 18, h2, h3, h7, h8 => rfl
    | 19, h2, h3, h7, h8 => rfl
    | 20, h2, h3, h7, h8 => rfl
    | 21, h2, h3, h7, h8 => rfl
    | 22, h2, h3, h7, h8 => rfl
    | 23, h2, h3, h7, h8 => rfl
    | 24, h2, h3, h7, h8 => rfl
    | 25, h2, h3, h7, h8 => rfl
    | 26, h2, h3, h7, h8 => rfl
    | 27, h2, h3, h7, h8 => rfl
    | 28, h2, h3, h7, h8 => rfl
    | 29, h2, h3, h7, h8 => rfl
    | 30, h2, h3, h7, h8 => rfl
    | 31, h2, h3, h7, h8 => rfl
    | 32, h2, h3, h7, h8 => rfl
    | 33, h2, h3, h7, h8 => rfl
    | 34, h2, h3, h7, h8 => rfl
    | 35, h2, h3, h7, h8 => rfl
    | 36, h2, h3, h7, h8 => rfl
    | 37, h2, h3, h7, h8 => rfl
    | 38, h2, h3, h7, h8 => rfl
    | 39, h2, h3, h7, h8 => rfl
    | _ + 40, _, _, _, _ => rfl
theorem box_at {M : Mut} {W : World} {st : St} {a : Act} {v : Value} {cs : List C} (h : SlotOK M W st a v (.box cs)) {b : Nat} (hv : v = .pointer (some ⟨b, 0, none⟩)) :
    ∃ T cells, W.heap[b]? = some (.cells cells T (0, 0)) ∧ cells.size = cs.length ∧ ∀ (k : Nat) (c : C) (u : Value), cs[k]? = some c → cells[k]? = some u → CellOK M W u c := by
  obtain ⟨b', T, cells, e1, e2, e3, _, e5⟩ := h
  rw [hv] at e1
  cases e1
  exact ⟨T, cells, e2, e3, e5⟩
theorem cell_at {W : World} {b : Nat} {cells : Array Value} {T : TypeId} (h : W.heap[b]? = some (.cells cells T (0, 0))) {k : Nat} {u : Value} (hk : cells[k]? = some u) : W.cell? ⟨b, k, none⟩ = some u := (cell_of_row W b k cells T (0, 0) h).trans hk
set_option maxRecDepth 20000 in
theorem loop142_wp {t : ST} {a b i0 : Int} {s s1 : Bool} (hs : sureN t a b fuel i0 s1 = .ret s) {M : Mut} {W : World} {act : Act} {sz b2 b3 bm : Nat} {T2 T3 : TypeId} {p : Option Addr} {n c : Nat}
    (hsz : act.tmps.size = 40) (hd : act.defers = []) (ht2 : tm act 2 = .pointer (some ⟨b2, 0, none⟩)) (ht3 : tm act 3 = .pointer (some ⟨b3, 0, none⟩)) (ht7 : tm act 7 = .bool s1) (ht8 : tm act 8 = .int .i64 i0)
    (h2 : W.heap[b2]? = some (.cells #[.slice p n c, .int .i64 t.2.1, .int .i64 t.2.2.1, .slice none 0 0, .map (some bm)] T2 (0, 0)))
    (h3 : W.heap[b3]? = some (.cells #[.int .i64 a, .int .i64 b] T3 (0, 0))) (hge2 : sz ≤ b2) (hge3 : sz ≤ b3) (hne : b2 ≠ b3) (hszW : sz ≤ W.heap.size)
    (hI : ∀ W', Fr (· < sz) W W' → Inv.I Tryz.prog W') (hlt : ∀ b o, M b o → b < sz) {w0 : World} (hw0 : w0.heap.size = sz) (hfr0 : Fr (· < sz) w0 W) (hrep : RepC M w0 (.list (.prod (.int .i64) (.prod (.int .i64) .unit))) [.slice p n c] t.1)
    {Q : Exit → Act → World → Prop}
    (hQ : ∀ act' W', act'.tmps.size = 40 → tm act' 2 = .pointer (some ⟨b2, 0, none⟩) → tm act' 3 = .pointer (some ⟨b3, 0, none⟩) → tm act' 7 = .bool s → Marks (fun D => sz ≤ D) W' act'.defers → Fr (· < sz) W W' →
      W'.cell? ⟨b2, 4, none⟩ = some (.map (some bm)) → W'.cell? ⟨b3, 0, none⟩ = some (.int .i64 a) → W'.cell? ⟨b3, 1, none⟩ = some (.int .i64 b) → Q (.exit 0) act' W') :
    loop142.wp Tryz.prog Q act W := by
  have hb2 : b2 < W.heap.size := (Array.getElem?_eq_some_iff.1 h2).1
  have hb3 : b3 < W.heap.size := (Array.getElem?_eq_some_iff.1 h3).1
  have hlist : RepC (fun k o => M k o ∨ k = b2 ∨ k = b3) W (.list (.prod (.int .i64) (.prod (.int .i64) .unit))) [.slice p n c] t.1 := by
    refine RepC.mono (fun k o v hc hn => ?_) _ _ _ hrep
    have hk : k < sz := hw0 ▸ cell_lt hc
    refine ⟨(World.cell?_of_block (hfr0.block k hk)).trans hc, ?_⟩
    rintro (h | rfl | rfl)
    · exact hn h
    · exact Nat.lt_irrefl _ (Nat.lt_of_lt_of_le hk hge2)
    · exact Nat.lt_irrefl _ (Nat.lt_of_lt_of_le hk hge3)
  have hown : ∀ i k bb, owns (st142 t (.map (some bm)) a b i0 s1) act W i k bb → k = none ∧ ((i = 2 ∧ bb = b2) ∨ (i = 3 ∧ bb = b3)) := by
    intro i k bb ho
    by_cases e2 : i = 2
    · subst e2
      cases k with
      | none =>
        have := ho.2
        rw [ht2] at this
        cases this
        exact ⟨rfl, .inl ⟨rfl, rfl⟩⟩
      | some k =>
        obtain ⟨cs, c0, _, _, e1, e2, e3, _⟩ := ho
        have e1' : C.d _ _ :: _ = cs := S.box.inj e1
        subst e1'
        have := List.mem_of_getElem? e2
        simp at this
        rcases this with rfl | rfl | rfl | rfl | rfl <;> cases e3
    · by_cases e3 : i = 3
      · subst e3
        cases k with
        | none =>
          have := ho.2
          rw [ht3] at this
          cases this
          exact ⟨rfl, .inr ⟨rfl, rfl⟩⟩
        | some k =>
          obtain ⟨cs, c0, _, _, e1, e2, e3, _⟩ := ho
          have e1' : C.d _ _ :: _ = cs := S.box.inj e1
          subst e1'
          have := List.mem_of_getElem? e2
          simp at this
          rcases this with rfl | rfl <;> cases e3
      · exfalso
        have hno : ownS (get (st142 t (.map (some bm)) a b i0 s1) i) = false ∧ ∀ cs, get (st142 t (.map (some bm)) a b i0 s1) i ≠ .box cs := by
          by_cases e7 : i = 7
          · subst e7; exact ⟨rfl, fun cs h => by cases h⟩
          · by_cases e8 : i = 8
            · subst e8; exact ⟨rfl, fun cs h => by cases h⟩
            · rw [get_st142 i e2 e3 e7 e8]; exact ⟨rfl, fun cs h => by cases h⟩
        cases k with
        | none => have := ho.1; rw [hno.1] at this; cases this
        | some k => obtain ⟨cs, _, _, _, e1, _⟩ := ho; exact hno.2 cs e1
  have hgood : Good { mu := M, ms := fun k o => M k o ∨ k = b2 ∨ k = b3, ws := W, pin := fun j => if j = 2 then some (.pointer (some ⟨b2, 0, none⟩)) else if j = 3 then some (.pointer (some ⟨b3, 0, none⟩)) else none, dm := fun D => sz ≤ D }
      (· < sz) (fun k o => M k o ∨ k = b2 ∨ k = b3) (st142 t (.map (some bm)) a b i0 s1) act W := by
    refine ⟨by rw [hd]; trivial, hsz, fun k hk => Nat.lt_of_lt_of_le hk hszW, hlt, fun _ _ h => .inl h, ?_, ?_, ?_, ?_, ?_, stable_refl _ _, ?_, fun D hD => Nat.le_of_not_lt hD⟩
    · rintro k o (h | rfl | rfl)
      · exact Nat.lt_of_lt_of_le (hlt _ _ h) hszW
      · exact hb2
      · exact hb3
    · rintro k o hk (h | rfl | rfl)
      · exact h
      · exact absurd hk (Nat.not_lt.2 hge2)
      · exact absurd hk (Nat.not_lt.2 hge3)
    · intro i
      by_cases e2 : i = 2
      · subst e2
        rw [ht2]
        refine ⟨b2, T2, _, rfl, h2, rfl, fun o => .inr (.inl rfl), fun k c u hk hu => ?_⟩
        match k, hk, hu with
        | 0, hk, hu => cases hk; cases hu; exact hlist
        | 1, hk, hu => cases hk; cases hu; exact rfl
        | 2, hk, hu => cases hk; cases hu; exact rfl
        | 3, hk, hu => cases hk; cases hu; exact RepC.list_nil _
        | 4, hk, hu => cases hk; cases hu; exact ⟨rfl, rfl, rfl⟩
        | _ + 5, hk, _ => cases hk
      · by_cases e3 : i = 3
        · subst e3
          rw [ht3]
          refine ⟨b3, T3, _, rfl, h3, rfl, fun o => .inr (.inr rfl), fun k c u hk hu => ?_⟩
          match k, hk, hu with
          | 0, hk, hu => cases hk; cases hu; exact rfl
          | 1, hk, hu => cases hk; cases hu; exact rfl
          | _ + 2, hk, _ => cases hk
        · by_cases e7 : i = 7
          · subst e7; rw [ht7]; exact ⟨[_], rfl, rfl⟩
          · by_cases e8 : i = 8
            · subst e8; rw [ht8]; exact ⟨[_], rfl, rfl⟩
            · rw [get_st142 i e2 e3 e7 e8]; trivial
    · intro i k j l bb h1 h2'
      obtain ⟨hk1, h1⟩ := hown i k bb h1
      obtain ⟨hk2, h2'⟩ := hown j l bb h2'
      refine ⟨?_, hk1.trans hk2.symm⟩
      rcases h1 with ⟨rfl, rfl⟩ | ⟨rfl, rfl⟩ <;> rcases h2' with ⟨rfl, h⟩ | ⟨rfl, h⟩
      · rfl
      · exact absurd h hne
      · exact absurd h.symm hne
      · rfl
    · intro i k bb h1
      obtain ⟨_, h1⟩ := hown i k bb h1
      rcases h1 with ⟨rfl, rfl⟩ | ⟨rfl, rfl⟩
      · exact Nat.not_lt.2 hge2
      · exact Nat.not_lt.2 hge3
    · intro j v hj
      dsimp only at hj
      split at hj
      · rename_i e; subst e; cases hj; exact ⟨ht2, rfl⟩
      · split at hj
        · rename_i e; subst e; cases hj; exact ⟨ht3, rfl⟩
        · cases hj
  refine (wpIn_wide (n := 0)).1 (code_ok (phi_ok specs142_ok) mixed hints142 fuel (fin := .ret (s, .map (some bm), a, b)) (by simp) loop142 (· < sz) _ W (some [2, 3]) none 0 (fun h => by cases h) hI ?_ k142 Q (fun h => by cases h) ?_ _ act W ⟨Fr.refl _ _, _, hgood⟩ ((v142 fuel t (.map (some bm)) a b i0 s1).trans (sureN_L fuel i0 s1 hs)))
  · intro j v hj
    dsimp only at hj
    refine ⟨[2, 3], rfl, ?_⟩
    split at hj
    · rename_i e; subst e; simp
    · split at hj
      · rename_i e; subst e; simp
      · cases hj
  · rintro x st act' W' ⟨hfr, M', hg⟩ hk
    obtain ⟨rfl, hl, g7, ⟨c1, c2, c3, c4, g2⟩, g3⟩ := k142_ret hk
    have p2 := (hg.pin 2 _ rfl).1
    have p3 := (hg.pin 3 _ rfl).1
    have s2 := hg.slot 2
    rw [g2] at s2
    have s3 := hg.slot 3
    rw [g3] at s3
    have s7 := hg.slot 7
    rw [g7] at s7
    obtain ⟨cs7, e7, e7'⟩ := s7
    have e7'' : cs7 = [.bool s] := e7'
    subst e7''
    obtain ⟨T, cells, q1, q2, q3⟩ := box_at s2 p2
    obtain ⟨T', cells', r1, r2, r3⟩ := box_at s3 p3
    have c4 : cells[4]? = some (.map (some bm)) := by
      have hlt : 4 < cells.size := by rw [q2]; simp
      have := q3 4 _ cells[4] rfl (Array.getElem?_eq_getElem hlt)
      have h : [cells[4]] = [Value.map (some bm)] := this.1
      rw [Array.getElem?_eq_getElem hlt]
      simpa using h
    have d0 : cells'[0]? = some (.int .i64 a) := by
      have hlt : 0 < cells'.size := by rw [r2]; simp
      have := r3 0 _ cells'[0] rfl (Array.getElem?_eq_getElem hlt)
      have h : [cells'[0]] = [Value.int .i64 a] := this
      rw [Array.getElem?_eq_getElem hlt]
      simpa using h
    have d1 : cells'[1]? = some (.int .i64 b) := by
      have hlt : 1 < cells'.size := by rw [r2]; simp
      have := r3 1 _ cells'[1] rfl (Array.getElem?_eq_getElem hlt)
      have h : [cells'[1]] = [Value.int .i64 b] := this
      rw [Array.getElem?_eq_getElem hlt]
      simpa using h
    exact hQ act' W' (hg.size.trans hl) p2 p3 e7 hg.defers hfr (cell_at q1 c4) (cell_at r1 d0) (cell_at r1 d1)
set_option maxRecDepth 20000 in
theorem sure_calls {t : ST} {a b : Int} {s : Bool} (hs : fsure t a b = .ret s) {M : Mut} {w : World} {p : Option Addr} {n c : Nat} {bm : Nat} {es : Array MapEntry} {clock : Nat}
    (hI : Inv.I Tryz.prog w) (hlt : ∀ b o, M b o → b < w.heap.size) (hrep : RepC M w (.list (.prod (.int .i64) (.prod (.int .i64) .unit))) [.slice p n c] t.1)
    (hb : w.heap[bm]? = some (.map es clock)) (hm : Memo (fun a b s => fsure t a b = .ret s) es) :
    Calls Tryz.prog 142 #[.agg #[.slice p n c, .int .i64 t.2.1, .int .i64 t.2.2.1, .slice none 0 0, .map (some bm)], .agg #[.int .i64 a, .int .i64 b]] w fun e w' =>
      e = .returned (.bool s) ∧ Fr (fun k => k < w.heap.size ∧ k ≠ bm) w w' ∧ ∃ es' clock', w'.heap[bm]? = some (.map es' clock') ∧ Memo (fun a b s => fsure t a b = .ret s) es' := by
  obtain ⟨h1, h2, hN⟩ := fsure_ret hs
  have hbl : bm < w.heap.size := (Array.getElem?_eq_some_iff.1 hb).1
  have hB : Below w.heap.size w ((w.alloc (.cells #[.slice p n c, .int .i64 t.2.1, .int .i64 t.2.2.1, .slice none 0 0, .map (some bm)] 99)).alloc (.cells #[.int .i64 a, .int .i64 b] 116)) := ((Below.refl _ _).alloc (Nat.le_refl _) _).alloc (by simp) _
  have hfr0 : Fr (· < w.heap.size) w ((w.alloc (.cells #[.slice p n c, .int .i64 t.2.1, .int .i64 t.2.2.1, .slice none 0 0, .map (some bm)] 99)).alloc (.cells #[.int .i64 a, .int .i64 b] 116)) := Fr.below hB fun _ h => h
  have hb2 : ((w.alloc (.cells #[.slice p n c, .int .i64 t.2.1, .int .i64 t.2.2.1, .slice none 0 0, .map (some bm)] 99)).alloc (.cells #[.int .i64 a, .int .i64 b] 116)).heap[bm]? = some (.map es clock) := (hB.block bm hbl).trans hb
  obtain ⟨s0, m, hl, hS⟩ := memo_look hb2 hm h1 h2
  unfold pairV at hl
  refine (callsIn_wide (n := 0)).1 (callsIn_of_wp_marks Tryz.func142 rfl trivial ((wpIn_wide (n := 0)).2 ?_))
  simp only [Tryz.ntmps142, List.size_toArray, List.length_cons, List.length_nil, Nat.reduceAdd, Nat.reduceSub, Array.replicate_succ, Array.replicate_zero, List.push_toArray, List.append_toArray, List.nil_append, List.cons_append]
  have hw64 : IntKind.i64.wrap (a + 1) = RowKit.wrap64 (a + 1) := by simp only [IntKind.wrap_i64, RowKit.wrap64]
  rw [hw64] at hN
  cases m
  · go_wp2
    rename_i K hK
    change loop142.wp Tryz.prog _ _ _
    apply loop142_wp hN (M := M) (sz := w.heap.size) (b2 := w.heap.size) (b3 := w.heap.size + 1) (bm := bm) (p := p) (n := n) (c := c) (w0 := w) (T2 := 99) (T3 := 116)
    case hsz => rfl
    case hd => rfl
    case ht2 => rfl
    case ht3 => rfl
    case ht7 => rfl
    case ht8 => rfl
    case h2 =>
      show (World.alloc _ _).heap[w.heap.size]? = _
      rw [Below.heap_alloc _ _ _ (by simp)]
      exact heap_alloc_new w _
    case h3 => exact heap_at (by simp)
    case hge2 => exact Nat.le_refl _
    case hge3 => exact Nat.le_succ _
    case hne => omega
    case hszW => simp; omega
    case hI => exact fun W' h => Inv.below _ _ hI (hfr0.trans h).toBelow
    case hlt => exact hlt
    case hw0 => rfl
    case hfr0 => exact hfr0
    case hrep => exact hrep
    case hQ =>
      intro act' W' q1 q2 q3 q7 qm qf qc q0 q1'
      obtain ⟨tmps, defers⟩ := act'
      obtain ⟨x0, x1, x2, x3, x4, x5, x6, x7, x8, x9, x10, x11, x12, x13, x14, x15, x16, x17, x18, x19, x20, x21, x22, x23, x24, x25, x26, x27, x28, x29, x30, x31, x32, x33, x34, x35, x36, x37, x38, x39, rfl⟩ := arr40 q1
      have e2 : x2 = _ := q2
      have e3 : x3 = _ := q3
      have e7 : x7 = _ := q7
      subst e2; subst e3; subst e7
      have hbW : W'.heap[bm]? = some (.map es clock) := (qf.block bm hbl).trans hb2
      obtain ⟨es', clock', hput, hmemo⟩ := memo_put hbW hm h1 h2 hs
      unfold pairV at hput
      refine hK _ _ ?_
      clear hK hl
      go_wp2
      have hoth : ∀ k, k ≠ bm → (W'.putObj bm (.map es' clock')).heap[k]? = W'.heap[k]? := fun k hk => World.putObj_heap_other hk
      have hmk := qm.keep (KeepsD.but (w' := W'.putObj bm (.map es' clock')) hbW (fun c h => by cases h) fun k _ hk => hoth k hk)
      refine leave_marks (by simp) defers _ hmk fun w2 h2 => ?_
      refine ⟨.bool s, by simp [results, Tryz.results142, go_sem], rfl, ?_, es', ⟨clock', ?_⟩, hmemo⟩
      · have e1 : Fr (fun k => k < w.heap.size ∧ ¬ k = bm) w W' := ⟨(hfr0.trans qf).os, (hfr0.trans qf).tape, (hfr0.trans qf).output, (hfr0.trans qf).size, fun k hk => (hfr0.trans qf).block k hk.1⟩
        have e2 : Fr (fun k => k < w.heap.size ∧ ¬ k = bm) W' (W'.putObj bm (.map es' clock')) := ⟨rfl, rfl, rfl, by simp, fun k hk => hoth k hk.2⟩
        have e3 : Fr (fun k => k < w.heap.size ∧ ¬ k = bm) (W'.putObj bm (.map es' clock')) w2 := ⟨h2.os, h2.tape, h2.output, h2.size, fun k hk => h2.block k (Nat.not_le.2 hk.1)⟩
        exact (e1.trans e2).trans e3
      · rw [h2.block bm (Nat.not_le.2 hbl)]
        have hlt' : bm < W'.heap.size := (Array.getElem?_eq_some_iff.1 hbW).1
        simp [World.putObj, hlt']
  · go_wp2
    have hs0 : s0 = s := by have := (hS (by simp)).symm.trans hs; cases this; rfl
    subst hs0
    refine ⟨.bool s0, by simp [results, Tryz.results142, go_sem], rfl, ?_, es, ⟨clock, hb2⟩, hm⟩
    exact ⟨hfr0.os, hfr0.tape, hfr0.output, hfr0.size, fun k hk => hfr0.block k hk.1⟩
end Go.V
namespace Go.V
open Go.Proofs
open Go.RowKit (Below)
section
variable {P : Program} [Inv P] {n : Nat} {ops : Array Oper} {Q : Exit → Act → World → Prop} {i : Nat} {o : Oper} {a : Act} {w w' : World} {K : Act → World → Prop}
theorem opn_value (hi : ops[i]? = some o) (hw : Region.wanted o (yielded ops a.tmps) = true) (hd : ∀ c, o.op ≠ .defer c) {v : Value} (hr : (execOp a.eval o).run P w = .ok (.value v) w') (hK : K (a.put o.dst v) w') : wpOpIn (fen none) n P ops Q i K a w := by
  unfold wpOpIn
  simp only [hi]
  rw [hw, if_pos rfl]
  refine ⟨fun f _ => fen_fn none f, ?_⟩
  rw [Oper.semAt_eq _ _ _ fun c e => absurd e (hd c), hr]
  exact hK
theorem opn_skip (hi : ops[i]? = some o) (hw : Region.wanted o (yielded ops a.tmps) = false) (hK : K (a.put o.dst undef) w) : wpOpIn (fen none) n P ops Q i K a w := by
  unfold wpOpIn
  simp only [hi]
  rw [hw, if_neg (by simp)]
  exact ⟨fun f _ => fen_fn none f, hK⟩
theorem opn_enter (hi : ops[i]? = some o) (hw : Region.wanted o (yielded ops a.tmps) = true) (hd : ∀ c, o.op ≠ .defer c) {f : FuncId} {args : Array Value} (hr : (execOp a.eval o).run P w = .ok (.enter f args) w')
    (hK : Calls P f args w' fun e w2 => ∃ v, e = .returned v ∧ K (a.put o.dst v) w2) : wpOpIn (fen none) n P ops Q i K a w := by
  unfold wpOpIn
  simp only [hi]
  rw [hw, if_pos rfl]
  refine ⟨fun f _ => fen_fn none f, ?_⟩
  rw [Oper.semAt_eq _ _ _ fun c e => absurd e (hd c), hr]
  refine ⟨fun hd => (by rw [fen_depth] at hd; cases hd), calls_fen (hK.mono ?_)⟩
  rintro e w2 ⟨v, rfl, h⟩
  exact h
theorem wanted_none (h : o.guard = none) : Region.wanted o (yielded ops a.tmps) = true := by unfold Region.wanted; rw [h]
theorem wanted_some {j t : Nat} {want b : Bool} (h : o.guard = some (j, want)) (ht : (ops[j]?).bind (·.dst) = some t) (hlt : t < a.tmps.size) (hv : tm a t = .bool b) : Region.wanted o (yielded ops a.tmps) = (b == want) := by
  unfold Region.wanted
  rw [h]
  have hy : yielded ops a.tmps j = some b := by
    unfold yielded
    rw [ht]
    have : a.tmps[t]? = some (.bool b) := by
      rw [← hv]
      simp [tm, hlt]
    simp only [Option.bind_some, this]
  dsimp only
  rw [hy]
  cases b <;> cases want <;> rfl
theorem tm_put_same {d : Nat} {v : Value} (h : d < a.tmps.size) : tm (a.put (some d) v) d = v := by
  simp [tm, Act.put, h]
theorem tm_put_other {d j : Nat} {v : Value} (h : j ≠ d) : tm (a.put (some d) v) j = tm a j := by
  simp [tm, Act.put, Array.getElem?_setIfInBounds, Ne.symm h]
theorem size_put {d : Nat} {v : Value} : (a.put (some d) v).tmps.size = a.tmps.size := by simp [Act.put]
theorem defers_put {d : Nat} {v : Value} : (a.put (some d) v).defers = a.defers := by simp [Act.put]
end
noncomputable def findRegion (id : Nat) : Code → Option (Array Oper)
  | .region k ops _ => bif k == id then some ops else none
  | .seq a b => (match findRegion id a with | some c => some c | none => findRegion id b)
  | .block _ b => findRegion id b
  | .scope b => findRegion id b
  | .cond _ a b => (match findRegion id a with | some c => some c | none => findRegion id b)
  | .loop b => findRegion id b
  | _ => none
noncomputable def ops7 : Array Oper := match findRegion 7 (bodyOf Tryz.f141) with | some o => o | none => #[]
def opInfo (o : Oper) : Option Tmp × Op × Option (Nat × Bool) := (o.dst, o.op, o.guard)
theorem info7 : ops7.toList.map opInfo = [
  (some 33, .load 99 (.tmp 3), none),
  (some 34, .move (.tmp 7), none),
  (some 35, .move (.tmp 8), none),
  (some 36, .build 116 #[(0, .tmp 34), (1, .tmp 35)], none),
  (some 37, .call { callee := .value (.func 142), args := #[.tmp 33, .tmp 36], argTypes := #[99, 116] }, none),
  (some 38, .move (.tmp 37), none),
  (some 39, .load 102 (.tmp 4), some (5, true)),
  (some 40, .move (.tmp 0), some (5, true)),
  (some 41, .call { callee := .value (.func 110), args := #[.tmp 40], argTypes := #[26] }, some (5, true)),
  (some 42, .move (.tmp 8), some (5, true)),
  (some 43, .buildSlice 26 1 #[(0, .tmp 42)], some (5, true)),
  (some 44, .call { callee := .builtin .append, args := #[.tmp 41, .tmp 43], argTypes := #[26, 26] }, some (5, true)),
  (some 45, .call { callee := .value (.tmp 39), args := #[.tmp 44], argTypes := #[26] }, some (5, true)),
  (some 46, .unOp .not 4 (.tmp 45), some (5, true)),
  (some 47, .pick (.tmp 38) (.tmp 46) (.const (.bool false)), none)] := by kernel_rfl
theorem size7 : ops7.size = 15 := by kernel_rfl
theorem early7 : early ops7 = true := by kernel_rfl
theorem waits7 : waits ops7 1 3 = true ∧ waits ops7 2 3 = true ∧ waits ops7 0 4 = true ∧ waits ops7 3 4 = true ∧ waits ops7 4 5 = true ∧ waits ops7 5 6 = true ∧ waits ops7 5 7 = true ∧ waits ops7 7 8 = true ∧ waits ops7 5 8 = true ∧ waits ops7 5 9 = true ∧
    waits ops7 9 10 = true ∧ waits ops7 5 10 = true ∧ waits ops7 8 11 = true ∧ waits ops7 10 11 = true ∧ waits ops7 5 11 = true ∧ waits ops7 6 12 = true ∧ waits ops7 11 12 = true ∧ waits ops7 5 12 = true ∧ waits ops7 12 13 = true ∧ waits ops7 5 13 = true ∧ waits ops7 5 14 = true ∧ waits ops7 13 14 = true :=
  ⟨by kernel_rfl, by kernel_rfl, by kernel_rfl, by kernel_rfl, by kernel_rfl, by kernel_rfl, by kernel_rfl, by kernel_rfl, by kernel_rfl, by kernel_rfl, by kernel_rfl, by kernel_rfl, by kernel_rfl, by kernel_rfl, by kernel_rfl, by kernel_rfl, by kernel_rfl, by kernel_rfl, by kernel_rfl, by kernel_rfl, by kernel_rfl, by kernel_rfl⟩
theorem info_at {i : Nat} {o : Oper} {x : Option Tmp × Op × Option (Nat × Bool)} (h : ops7[i]? = some o) (hx : (ops7.toList.map opInfo)[i]? = some x) : o.dst = x.1 ∧ o.op = x.2.1 ∧ o.guard = x.2.2 := by
  rw [List.getElem?_map, Array.getElem?_toList, h] at hx
  cases hx
  exact ⟨rfl, rfl, rfl⟩
section
variable {a : Act} {w : World} {o : Oper}
theorem ex_load99 (ho : o.op = .load 99 (.tmp 3)) {b : Nat} {r f : Int} {bm T : Nat} (ht : tm a 3 = .pointer (some ⟨b, 0, none⟩)) {p : Option Addr} {n c : Nat}
    (hh : w.heap[b]? = some (.cells #[.slice p n c, .int .i64 r, .int .i64 f, .slice none 0 0, .map (some bm)] T (0, 0))) :
    (execOp a.eval o).run Tryz.prog w = .ok (.value (.agg #[.slice p n c, .int .i64 r, .int .i64 f, .slice none 0 0, .map (some bm)])) w := by
  have := load_cells (P := Tryz.prog) (n := 9) (T := 99) (t := TAB) (w := w) (b := b) (off := 0) (us' := []) (c1 := [.slice p n c, .int .i64 r, .int .i64 f, .slice none 0 0, .map (some bm)]) (by kernel_rfl) hh rfl rfl
  have e1 : a.eval (.tmp 3) = .pointer (some ⟨b, 0, none⟩) := ht
  simp [execOp, ho, e1, Instr.loadAt, Instr.sureAddr, this, toVal, Ty.agg]
theorem ex_move {j : Nat} (ho : o.op = .move (.tmp j)) : (execOp a.eval o).run Tryz.prog w = .ok (.value (tm a j)) w := by
  simp [execOp, ho, Act.eval]
theorem ex_build {x y : Int} (ho : o.op = .build 116 #[(0, .tmp 34), (1, .tmp 35)]) (h1 : tm a 34 = .int .i64 x) (h2 : tm a 35 = .int .i64 y) : (execOp a.eval o).run Tryz.prog w = .ok (.value (pairV x y)) w := by
  have e1 : a.eval (.tmp 34) = .int .i64 x := h1
  have e2 : a.eval (.tmp 35) = .int .i64 y := h2
  have e3 : ∀ (x y : Value) (w : World), x.oneCell' = true → True := fun _ _ _ _ => trivial
  simp only [execOp, ho, List.map_toArray, List.map_cons, List.map_nil, e1, e2]
  simp [go_sem, pairV]
theorem ex_call142 {v u : Value} (ho : o.op = .call { callee := .value (.func 142), args := #[.tmp 33, .tmp 36], argTypes := #[99, 116] }) (h1 : tm a 33 = v) (h2 : tm a 36 = u) : (execOp a.eval o).run Tryz.prog w = .ok (.enter 142 #[v, u]) w := by
  have e1 : a.eval (.tmp 33) = v := h1
  have e2 : a.eval (.tmp 36) = u := h2
  have e4 : a.eval (.func 142) = .func (.func 142) #[] #[] := rfl
  have e3 := enters_run (P := Tryz.prog) (g := 142) (by kernel_rfl) #[v, u] w
  simp [execOp, ho, resolve, e1, e2, e4, Deferred.ofValue, invoke, e3]
theorem ex_call110 {v : Value} (ho : o.op = .call { callee := .value (.func 110), args := #[.tmp 40], argTypes := #[26] }) (h1 : tm a 40 = v) : (execOp a.eval o).run Tryz.prog w = .ok (.enter 110 #[v]) w := by
  have e1 : a.eval (.tmp 40) = v := h1
  have e4 : a.eval (.func 110) = .func (.func 110) #[] #[] := rfl
  have e3 := enters_run (P := Tryz.prog) (g := 110) (by kernel_rfl) #[v] w
  simp [execOp, ho, resolve, e1, e4, Deferred.ofValue, invoke, e3]
theorem ex_load102 (ho : o.op = .load 102 (.tmp 4)) {b T : Nat} {f : Fn} {x y : Array Value} (ht : tm a 4 = .pointer (some ⟨b, 0, none⟩)) (hh : w.heap[b]? = some (.cells #[.func f x y] T (0, 0))) : (execOp a.eval o).run Tryz.prog w = .ok (.value (.func f x y)) w := by
  have := load_cells (P := Tryz.prog) (n := 9) (T := 102) (t := .raw) (w := w) (b := b) (off := 0) (us' := []) (c1 := [.func f x y]) (by kernel_rfl) hh rfl rfl
  have e1 : a.eval (.tmp 4) = .pointer (some ⟨b, 0, none⟩) := ht
  simp [execOp, ho, e1, Instr.loadAt, Instr.sureAddr, this, toVal, Ty.agg]
theorem ex_buildSlice {x : Int} (ho : o.op = .buildSlice 26 1 #[(0, .tmp 42)]) (h1 : tm a 42 = .int .i64 x) : (execOp a.eval o).run Tryz.prog w = .ok (.value (.slice (some ⟨w.heap.size, 0, none⟩) 1 1)) (w.alloc (.cells #[.int .i64 x] 3)) := by
  have e1 : a.eval (.tmp 42) = .int .i64 x := h1
  simp only [execOp, ho, List.map_toArray, List.map_cons, List.map_nil, e1]
  simp [go_sem]
theorem ex_calltmp {v : Value} {g : Nat} {fs pc : Array Value} (ho : o.op = .call { callee := .value (.tmp 39), args := #[.tmp 44], argTypes := #[26] }) (h0 : tm a 39 = .func (.func g) fs pc) (he : enters Tryz.prog g = true) (h1 : tm a 44 = v) : (execOp a.eval o).run Tryz.prog w = .ok (.enter g (fs ++ #[v] ++ pc)) w := by
  have e0 : a.eval (.tmp 39) = .func (.func g) fs pc := h0
  have e1 : a.eval (.tmp 44) = v := h1
  have e3 := fun args => enters_run (P := Tryz.prog) (g := g) he args w
  simp [execOp, ho, resolve, e0, e1, Deferred.ofValue, invoke, e3]
theorem ex_not {b : Bool} (ho : o.op = .unOp .not 4 (.tmp 45)) (h1 : tm a 45 = .bool b) : (execOp a.eval o).run Tryz.prog w = .ok (.value (.bool !b)) w := by
  have e1 : a.eval (.tmp 45) = .bool b := h1
  simp only [execOp, ho, e1]
  simp [go_sem]
theorem ex_pick {b : Bool} {v : Value} (ho : o.op = .pick (.tmp 38) (.tmp 46) (.const (.bool false))) (h0 : tm a 38 = .bool b) (h1 : b = true → tm a 46 = v) : (execOp a.eval o).run Tryz.prog w = .ok (.value (if b then v else .bool false)) w := by
  have e1 : a.eval (.tmp 38) = .bool b := h0
  simp only [execOp, ho, e1]
  cases b with
  | true => have e2 : a.eval (.tmp 46) = v := h1 rfl; simpa [go_sem] using h1 rfl
  | false => simp [go_sem]
theorem ex_append {base : Nat} {v : Value} {xs : List Int} {x : Int} {b : Nat} (ho : o.op = .call { callee := .builtin .append, args := #[.tmp 41, .tmp 43], argTypes := #[26, 26] }) (h0 : tm a 41 = v) (h1 : tm a 43 = .slice (some ⟨b, 0, none⟩) 1 1)
    (hown : w.ownsRow base 3 1 v xs.length (xs.map (Value.int .i64))) (hc : w.cell? ⟨b, 0, none⟩ = some (.int .i64 x)) (hlen : xs.length < 1000000) (hbase : base ≤ w.heap.size) :
    ∃ v' w', (execOp a.eval o).run Tryz.prog w = .ok (.value v') w' ∧ w'.ownsRow base 3 1 v' (xs ++ [x]).length ((xs ++ [x]).map (Value.int .i64)) ∧ w.grownBy w' v.ownBlock := by
  have e0 : a.eval (.tmp 41) = v := h0
  have e1 : a.eval (.tmp 43) = .slice (some ⟨b, 0, none⟩) 1 1 := h1
  obtain ⟨v', w', g1, g2, g3, _⟩ := run_append_own (P := Tryz.prog) w base 26 o.type 3 ((Tryz.prog.info? 3).getD default) (.int .i64 0) 1 8 (by kernel_rfl) (by kernel_rfl) (by kernel_rfl) (by kernel_rfl) (by kernel_rfl) rfl (by omega) v xs.length (xs.map (Value.int .i64)) hown ⟨b, 0, none⟩ 1 1 [.int .i64 x] rfl
    (fun j u hj => by
      match j, hj with
      | 0, hj => cases hj; exact hc
      | j + 1, hj => cases hj) (fun u hu => by simp at hu; subst hu; rfl) (by unfold maxLen; omega) (by omega) hbase
  refine ⟨v', w', ?_, by simpa using g2, g3⟩
  simp [execOp, ho, resolve, e0, e1, invoke, builtin, g1]
end
end Go.V
