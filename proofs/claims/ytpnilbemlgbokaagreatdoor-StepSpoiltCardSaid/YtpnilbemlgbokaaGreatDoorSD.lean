/- A part of the proof of a law of the step table. -/
import Derived.Test.YtpnilbemlgbokaaGreatDoorSB
set_option linter.all false
namespace Go.V
open Go.Proofs
open Go.RowKit (Below)
def tabB : List (Int × Int × Unit) := [(0, 0, ()), (10, 10, ()), (40, 40, ()), (90, 91, ()), (160, 161, ()), (250, 250, ()), (360, 360, ())]
theorem one_calls (n : Int) (w : World) : Calls Tryz.prog 63 #[.int .i64 n] w fun e w' => e = .returned (.agg #[.int .i64 n, .int .i64 n]) ∧ w' = w.alloc (.cells #[.int .i64 n, .int .i64 n] 76) := by
  go_enter Tryz.func63, Tryz.ntmps63
  go_wp2
  simp [bodyPost, results, Tryz.results63, go_sem]
theorem a_calls (w : World) : Calls Tryz.prog 73 #[] w fun e w' => e = .returned (.agg #[.slice (some ⟨w.heap.size + 1 + 1 + 1 + 1 + 1 + 1 + 1, 0, none⟩) 7 7, .int .i64 3, .int .i64 10]) ∧
    w' = ((((((((w.alloc (.cells #[.slice (some ⟨w.heap.size + 1 + 1 + 1 + 1 + 1 + 1 + 1, 0, none⟩) 7 7, .int .i64 3, .int .i64 10] 25)).alloc (.cells #[.int .i64 0, .int .i64 0] 76)).alloc (.cells #[.int .i64 10, .int .i64 10] 76)).alloc (.cells #[.int .i64 40, .int .i64 40] 76)).alloc (.cells #[.int .i64 160, .int .i64 160] 76)).alloc (.cells #[.int .i64 250, .int .i64 250] 76)).alloc (.cells #[.int .i64 360, .int .i64 360] 76)).alloc (.cells #[.int .i64 0, .int .i64 0, .int .i64 10, .int .i64 10, .int .i64 40, .int .i64 40, .int .i64 90, .int .i64 91, .int .i64 160, .int .i64 160, .int .i64 250, .int .i64 250, .int .i64 360, .int .i64 360] 76)) := by
  go_enter Tryz.func73, Tryz.ntmps73
  go_wp2_with (go_at_call 63; refine (one_calls _ _).mono ?_; rintro e w' ⟨rfl, rfl⟩)
  simp [bodyPost, results, Tryz.results73, go_sem]
theorem heap_at {W : World} {o : Obj} {n : Nat} (h : n = W.heap.size) : (W.alloc o).heap[n]? = some o := h ▸ heap_alloc_new W o
theorem b_calls (w : World) : Calls Tryz.prog 76 #[] w fun e w' => ∃ b, w.heap.size ≤ b ∧ e = .returned (.agg #[.slice (some ⟨b, 0, none⟩) 7 7, .int .i64 3, .int .i64 10]) ∧ Below w.heap.size w w' ∧
    ∃ T, w'.heap[b]? = some (.cells #[.int .i64 0, .int .i64 0, .int .i64 10, .int .i64 10, .int .i64 40, .int .i64 40, .int .i64 90, .int .i64 91, .int .i64 160, .int .i64 161, .int .i64 250, .int .i64 250, .int .i64 360, .int .i64 360] T (0, 0)) := by
  go_enter Tryz.func76, Tryz.ntmps76
  go_wp2_with (go_at_call 73; refine (a_calls _).mono ?_; rintro e w' ⟨rfl, rfl⟩)
  refine bodyPost_ret (v := .agg #[.slice (some ⟨w.heap.size + 1 + 1 + 1 + 1 + 1 + 1 + 1 + 1, 0, none⟩) 7 7, .int .i64 3, .int .i64 10]) ?_ rfl ⟨_, ?_, rfl, ?_, 76, ?_⟩
  · simp [results, Tryz.results76, go_sem]
  · omega
  · repeat refine Below.alloc ?_ (by first | (simp; done) | (simp; omega)) _
    exact Below.refl _ _
  · rw [Below.heap_alloc _ _ _ (by simp)]
    exact heap_at (by simp)
abbrev STAB : Ty := .prod (.list (.prod (.int .i64) (.prod (.int .i64) .unit))) (.prod (.int .i64) (.prod (.int .i64) .unit))
def tB : List (Int × Int × Unit) × Int × Int × Unit := (tabB, 3, 10, ())
def f76 (_ : Unit) : Out (List (Int × Int × Unit) × Int × Int × Unit) := .ret tB
def sp76 : Spec := ⟨76, .call, .unit, STAB, false, false, f76⟩
theorem c76 : Contract Tryz.prog sp76 := by
  refine contract_ret rfl (fun _ p h => by cases h) fun x M w vs r hr hI hvs hlt => ?_
  have hr' : r = tB := by cases hr; rfl
  subst hr'
  have hvs' : vs = #[] := by apply Array.ext'; exact hvs
  subst hvs'
  refine (b_calls w).mono ?_
  rintro e w' ⟨b, hb, rfl, hbel, T, hc⟩
  refine ⟨_, rfl, hbel, M, fun _ _ h => h, fun _ _ h => .inl h, ⟨[.slice (some ⟨b, 0, none⟩) 7 7, .int .i64 3, .int .i64 10], rfl, [.slice (some ⟨b, 0, none⟩) 7 7], [.int .i64 3, .int .i64 10], rfl, ⟨some ⟨b, 0, none⟩, 7, rfl, Nat.le_refl _, fun i hi => ?_⟩, [_], [_], rfl, rfl, [_], [], rfl, rfl, rfl⟩, fun b hb => by cases hb⟩
  have hi' : i < 7 := hi
  have cells : ∀ (k : Nat) (v : Value), (#[Value.int .i64 0, .int .i64 0, .int .i64 10, .int .i64 10, .int .i64 40, .int .i64 40, .int .i64 90, .int .i64 91, .int .i64 160, .int .i64 161, .int .i64 250, .int .i64 250, .int .i64 360, .int .i64 360])[k]? = some v → w'.cell? ⟨b, k, none⟩ = some v := fun k v hk => (cell_of_row w' b k _ T (0, 0) hc).trans hk
  have key : ∀ (p q : Int) (k : Nat), w'.cell? ⟨b, k, none⟩ = some (.int .i64 p) → w'.cell? ⟨b, k + 1, none⟩ = some (.int .i64 q) → CellsAt M w' b k [.int .i64 p, .int .i64 q] := fun p q k h1 h2 j hj => by
    match j, hj with
    | 0, _ => exact ⟨h1, fun hM => by have := hlt _ _ hM; omega⟩
    | 1, _ => exact ⟨h2, fun hM => by have := hlt _ _ hM; omega⟩
    | n + 2, h => exact absurd h (by show ¬ n + 2 < 2; omega)
  match i, hi' with
  | 0, _ => exact ⟨b, 0, [.int .i64 0, .int .i64 0], rfl, rfl, key _ _ _ (cells _ _ rfl) (cells _ _ rfl), [_], [_], rfl, rfl, [_], [], rfl, rfl, rfl⟩
  | 1, _ => exact ⟨b, 0, [.int .i64 10, .int .i64 10], rfl, rfl, key _ _ _ (cells _ _ rfl) (cells _ _ rfl), [_], [_], rfl, rfl, [_], [], rfl, rfl, rfl⟩
  | 2, _ => exact ⟨b, 0, [.int .i64 40, .int .i64 40], rfl, rfl, key _ _ _ (cells _ _ rfl) (cells _ _ rfl), [_], [_], rfl, rfl, [_], [], rfl, rfl, rfl⟩
  | 3, _ => exact ⟨b, 0, [.int .i64 90, .int .i64 91], rfl, rfl, key _ _ _ (cells _ _ rfl) (cells _ _ rfl), [_], [_], rfl, rfl, [_], [], rfl, rfl, rfl⟩
  | 4, _ => exact ⟨b, 0, [.int .i64 160, .int .i64 161], rfl, rfl, key _ _ _ (cells _ _ rfl) (cells _ _ rfl), [_], [_], rfl, rfl, [_], [], rfl, rfl, rfl⟩
  | 5, _ => exact ⟨b, 0, [.int .i64 250, .int .i64 250], rfl, rfl, key _ _ _ (cells _ _ rfl) (cells _ _ rfl), [_], [_], rfl, rfl, [_], [], rfl, rfl, rfl⟩
  | 6, _ => exact ⟨b, 0, [.int .i64 360, .int .i64 360], rfl, rfl, key _ _ _ (cells _ _ rfl) (cells _ _ rfl), [_], [_], rfl, rfl, [_], [], rfl, rfl, rfl⟩
  | n + 7, h => omega
end Go.V
