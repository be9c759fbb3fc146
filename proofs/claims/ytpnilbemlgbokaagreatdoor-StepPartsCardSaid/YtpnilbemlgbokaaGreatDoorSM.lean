/- A part of the proof of a law of the step table. -/
import Derived.Test.YtpnilbemlgbokaaGreatDoorSB
import Derived.Test.YtpnilbemlgbokaaGreatDoorVI
import Derived.Maps.Keyed
import Derived.DeepKeys4
set_option linter.all false
/- A map keyed by two rows, of what is known already: looked up, written. -/
namespace Go.V
open Go.Proofs
open Go.RowKit (Below)

theorem laidOut : laidOutB Tryz.prog = true := by kernel_rfl
theorem law116 : Maps.Keyed Tryz.prog 116 := Maps.Keyed.of_law (deep_law_laid laidOut (m := 2) (by omega) (of_decide_eq_true (by kernel_rfl)) (by kernel_rfl) (by kernel_rfl))
def pairV (a b : Int) : Value := .agg #[.int .i64 a, .int .i64 b]
def rng (n : Int) : Bool := decide (-9223372036854775808 ≤ n) && decide (n ≤ 9223372036854775807)
theorem rng_wf {n : Int} (h : rng n = true) : (Lit.int .i64 n).wf = true := by
  simp only [rng, Bool.and_eq_true, decide_eq_true_eq] at h
  have h1 : IntKind.min .i64 = -9223372036854775808 := rfl
  have h2 : IntKind.max .i64 = 9223372036854775807 := rfl
  simp [Lit.wf, h1, h2, h]
theorem und116 : Tryz.prog.underlying 116 = some (.struct ((Tryz.prog.underlying 116).elim #[] fun d => match d with | .struct fs => fs | _ => #[])) := by kernel_rfl
def keyOne (n : Int) : Option (List Lit) := if IntKind.i64 = IntKind.i64 ∧ (Lit.int .i64 n).wf = true then some [Lit.int .i64 n] else none
theorem kl116 (a b : Int) : Tryz.prog.keyLits (Tryz.prog.types.size + 1) 116 (pairV a b).cells.toList = (([keyOne a, keyOne b]).mapM id).map List.flatten := by kernel_rfl
theorem kf116 (a b : Int) : (Tryz.prog.keyType 116 && (pairV a b).formed Tryz.prog 116) = true := by kernel_rfl
theorem key116 {a b : Int} (ha : rng a = true) (hb : rng b = true) : ∃ l, keyOf Tryz.prog 116 (pairV a b) = some l := by
  have h1 := rng_wf ha
  have h2 := rng_wf hb
  unfold keyOf
  rw [und116, kf116, kl116]
  simp [keyOne, h1, h2]

/-- What the map holds is so. -/
def Memo (S : Int → Int → Bool → Prop) (es : Array MapEntry) : Prop :=
  ∀ e ∈ es.toList, ∃ a b s, rng a = true ∧ rng b = true ∧ e.key = pairV a b ∧ e.val = .bool s ∧ S a b s

theorem pairV_inj {a b a' b' : Int} (h : pairV a b = pairV a' b') : a = a' ∧ b = b' := by
  simp only [pairV, Value.agg.injEq] at h
  have h1 := congrArg (·.toList) h
  simp at h1
  exact h1

theorem memo_keys {S : Int → Int → Bool → Prop} {es : Array MapEntry} (h : Memo S es) : ∀ e ∈ es.toList, ∃ l, keyOf Tryz.prog 116 e.key = some l := fun e he => by
  obtain ⟨a, b, s, ha, hb, hk, _⟩ := h e he
  rw [hk]; exact key116 ha hb

theorem und97 : Tryz.prog.underlying 97 = some (.map 116 4) := by kernel_rfl
theorem zero4 (w : World) : (zeroValue 4).run Tryz.prog w = .ok (.bool false) w := by kernel_rfl

theorem memo_look {S : Int → Int → Bool → Prop} {es : Array MapEntry} {clock bm : Nat} {w : World} {a b : Int} (hb : w.heap[bm]? = some (.map es clock)) (hm : Memo S es) (h1 : rng a = true) (h2 : rng b = true) :
    ∃ s m : Bool, (Instr.lookup 97 (.map (some bm)) (pairV a b) true).run Tryz.prog w = .ok (.tuple #[.bool s, .bool m]) w ∧ (m = true → S a b s) := by
  obtain ⟨l, hl⟩ := key116 h1 h2
  rcases law116.find w hl es.toList (memo_keys hm) with ⟨g1, g2⟩ | ⟨j, e0, g1, g2, g3⟩
  · refine ⟨false, false, ?_, fun h => by cases h⟩
    simp [Instr.lookup, run_underlying und97, MapKept.run_getObj_map hb, law116.check w _ hl, g1, zero4, Result.andThen]
  · obtain ⟨a', b', s, _, _, hk, hv, hS⟩ := hm e0 (List.mem_of_getElem? g2)
    obtain ⟨rfl, rfl⟩ := pairV_inj (hk.symm.trans g3)
    refine ⟨s, true, ?_, fun _ => hS⟩
    simp [Instr.lookup, run_underlying und97, MapKept.run_getObj_map hb, law116.check w _ hl, g1, Result.andThen, hv]

theorem memo_put {S : Int → Int → Bool → Prop} {es : Array MapEntry} {clock bm : Nat} {w : World} {a b : Int} {s : Bool} (hb : w.heap[bm]? = some (.map es clock)) (hm : Memo S es) (h1 : rng a = true) (h2 : rng b = true) (hS : S a b s) :
    ∃ es' clock', (Instr.mapUpdate 97 (.map (some bm)) (pairV a b) (.bool s)).run Tryz.prog w = .ok () (w.putObj bm (.map es' clock')) ∧ Memo S es' := by
  obtain ⟨l, hl⟩ := key116 h1 h2
  rcases law116.find w hl es.toList (memo_keys hm) with ⟨g1, g2⟩ | ⟨j, e0, g1, g2, g3⟩
  · refine ⟨es.push ⟨pairV a b, .bool s, clock⟩, clock + 1, ?_, ?_⟩
    · simp [Instr.mapUpdate, run_underlying und97, MapKept.run_getObj_map hb, law116.check w false hl, g1, MapKept.run_setObj_map _ hb, Result.andThen, World.putObj]
    · intro e he
      simp only [Array.toList_push, List.mem_append, List.mem_singleton] at he
      rcases he with he | rfl
      · exact hm e he
      · exact ⟨a, b, s, h1, h2, rfl, rfl, hS⟩
  · have hj : es[j]? = some e0 := by simpa using g2
    refine ⟨es.modify j fun e => { e with key := pairV a b, val := .bool s }, clock, ?_, ?_⟩
    · simp [Instr.mapUpdate, run_underlying und97, MapKept.run_getObj_map hb, law116.check w false hl, g1, hj, g3, law116.stays w hl, MapKept.run_setObj_map _ hb, Result.andThen, World.putObj]
    · intro e he
      obtain ⟨i, hi⟩ := List.mem_iff_getElem?.1 he
      have hi' : (es.modify j fun e => { e with key := pairV a b, val := .bool s })[i]? = some e := by rw [← Array.getElem?_toList]; exact hi
      rw [Array.getElem?_modify] at hi'
      split at hi'
      · cases hx : es[i]? with
        | none => rw [hx] at hi'; cases hi'
        | some e1 => rw [hx] at hi'; cases hi'; exact ⟨a, b, s, h1, h2, rfl, rfl, hS⟩
      · exact hm e (List.mem_of_getElem? (by simpa using hi'))
end Go.V
