/- A part of the proof of a law of the step table. -/
import Derived.Test.YtpnilbemlgbokaaGreatDoorSB
import Derived.Test.YtpnilbemlgbokaaGreatDoorShelfB
set_option linter.all false
namespace Go.V
open Go.Proofs
open Go.RowKit (Below)
theorem heap_setCells_row (b : Nat) : ∀ (vs : List Value) (o : Nat) (w : World) (cells : Array Value) (T : TypeId), w.heap[b]? = some (.cells cells T (0, 0)) → o + vs.length ≤ cells.size →
    ∃ cells', (w.setCells b o vs).heap[b]? = some (.cells cells' T (0, 0)) ∧ cells'.size = cells.size ∧ (∀ j v, vs[j]? = some v → cells'[o + j]? = some v) ∧ (∀ j, j < o ∨ o + vs.length ≤ j → cells'[j]? = cells[j]?)
  | [], o, w, cells, T, h, _ => ⟨cells, h, rfl, fun j v hv => by simp at hv, fun _ _ => rfl⟩
  | v :: vs, o, w, cells, T, h, hs => by
    have hs' : o + (vs.length + 1) ≤ cells.size := hs
    obtain ⟨cells', h1, h2, h3, h4⟩ := heap_setCells_row b vs (o + 1) (w.setCell ⟨b, o, none⟩ v) (cells.setIfInBounds o v) T (heap_setCell_same w b o cells T v h) (by simp; omega)
    refine ⟨cells', h1, by simpa using h2, fun j u hu => ?_, fun j hj => ?_⟩
    · cases j with
      | zero =>
        have hu : v = u := by simpa using hu
        subst hu
        have ho : o < cells.size := by omega
        rw [Nat.add_zero, h4 o (by omega), Array.getElem?_setIfInBounds, if_pos rfl, if_pos ho]
      | succ j =>
        have := h3 j u (by simpa using hu)
        rw [show o + (j + 1) = o + 1 + j by omega]
        exact this
    · have hj' : j < o ∨ o + (vs.length + 1) ≤ j := hj
      rw [h4 j (by omega), Array.getElem?_setIfInBounds, if_neg (by omega)]
theorem fr_setCells (b : Nat) : ∀ (vs : List Value) (o : Nat) (w : World), Fr (· ≠ b) w (w.setCells b o vs)
  | [], _, w => Fr.refl _ w
  | v :: vs, o, w => by
    have h1 : Fr (· ≠ b) w (w.setCell ⟨b, o, none⟩ v) := ⟨rfl, rfl, rfl, by simp, fun k hk => Below.heap_setCell w _ _ k hk⟩
    exact h1.trans (fr_setCells b vs (o + 1) _)
theorem _root_.Go.V.Fr.of_below {B : Nat} {a w w' : World} (h : Fr (· ≠ B) w w') (hb : Below B a w) : Below B a w' :=
  ⟨h.os.trans hb.os, h.tape.trans hb.tape, h.output.trans hb.output, Nat.le_trans hb.size h.size, fun k hk => (h.block k (by omega)).trans (hb.block k hk)⟩
theorem own_row {w' : World} {g : Nat} {cells : Array Value} {T : TypeId} {cap : Nat} {zs : List Int} {M : Mut} (hc : w'.heap[g]? = some (.cells cells T (0, 0))) (hs : cells.size = cap) (hle : zs.length ≤ cap) (hmax : cap ≤ maxLen)
    (hz : ∀ (j : Nat) z, zs[j]? = some z → cells[j]? = some (.int .i64 z)) (hM : ∀ o, M g o ↔ zs.length ≤ o) : SlotOK M w' [] ⟨#[], []⟩ (.slice (some ⟨g, 0, none⟩) zs.length cap) (.own (.int .i64) zs true) := by
  refine ⟨⟨some ⟨g, 0, none⟩, cap, rfl, hle, fun i hi => ?_⟩, .inr ⟨g, cap, cells, T, rfl, hc, hle, hmax, by rw [hs]; exact (Nat.mul_one cap).symm, fun o ho => (hM o).2 (by have h : zs.length * 1 ≤ o := ho; omega)⟩⟩
  have hi' : i < zs.length := hi
  refine ⟨g, 0, [.int .i64 zs[i]], rfl, rfl, fun j hj => ?_, rfl⟩
  have hj0 : j = 0 := by simpa using hj
  subst hj0
  have e : 0 + i * (Ty.int .i64).size + 0 = i := by simp [Ty.size]
  rw [e]
  refine ⟨?_, fun hm => ?_⟩
  · have h1 := cell_of_row w' g i cells T (0, 0) hc
    rw [h1]
    exact hz i zs[i] (List.getElem?_eq_getElem hi')
  · have := (hM i).1 hm; omega
theorem frozen_row {w : World} {b : Nat} {cells : Array Value} {T : TypeId} (h : w.heap[b]? = some (.cells cells T (0, 0))) (j : Nat) : w.frozen? ⟨b, j, none⟩ = false := by simp [World.frozen?, h]
theorem cell_row {w : World} {b : Nat} {cells : Array Value} {T : TypeId} (h : w.heap[b]? = some (.cells cells T (0, 0))) (j : Nat) : w.cell? ⟨b, j, none⟩ = cells[j]? := cell_of_row w b j cells T (0, 0) h
theorem shape_row {w : World} {b : Nat} {cells : Array Value} {T : TypeId} (h : w.heap[b]? = some (.cells cells T (0, 0))) : w.shape? b = some (T, cells.size) := by simp [World.shape?, h]
def ins (xs : List Int) (i : Nat) (row : Int) : List Int := xs.take i ++ row :: xs.drop i
theorem ins_length (xs : List Int) {i : Nat} (row : Int) (h : i ≤ xs.length) : (ins xs i row).length = xs.length + 1 := by
  simp [ins]; omega
theorem ins_get (xs : List Int) {i : Nat} (row : Int) (h : i ≤ xs.length) (j : Nat) : (ins xs i row)[j]? = if j < i then xs[j]? else if j = i then some row else xs[j - 1]? := by
  unfold ins
  rw [List.getElem?_append]
  have : (xs.take i).length = i := by simp; omega
  rw [this]
  split
  · rename_i hj; rw [List.getElem?_take_of_lt hj]
  · rename_i hj
    split
    · rename_i e; subst e; simp
    · rename_i e
      obtain ⟨k, hk⟩ : ∃ k, j - i = k + 1 := ⟨j - i - 1, by omega⟩
      rw [hk, List.getElem?_cons_succ, List.getElem?_drop]
      congr 1; omega
def InsPost (M : Mut) (w : World) (v0 : Value) (zs : List Int) (z : Ending) (w' : World) : Prop :=
  ∃ v, z = .returned v ∧ Fr (fun k => k < w.heap.size ∧ ownB v0 ≠ some k) w w' ∧
    ∃ M', (∀ k o, ownB v0 ≠ some k → M k o → M' k o) ∧ (∀ k o, M' k o → M k o ∨ (w.heap.size ≤ k ∧ k < w'.heap.size)) ∧ SlotOK M' w' [] ⟨#[], []⟩ v (.own (.int .i64) zs true) ∧
      ∀ k, ownB v = some k → w.heap.size ≤ k ∨ ownB v0 = some k
theorem ins_new {M : Mut} {w w' : World} {v0 : Value} {zs : List Int} {cells : Array Value} {T : TypeId} {cap : Nat} (hlt : ∀ k o, M k o → k < w.heap.size) (hb : Below w.heap.size w w') (hc : w'.heap[w.heap.size]? = some (.cells cells T (0, 0)))
    (hs : cells.size = cap) (hle : zs.length ≤ cap) (hmax : cap ≤ maxLen) (hz : ∀ (j : Nat) z, zs[j]? = some z → cells[j]? = some (.int .i64 z)) :
    InsPost M w v0 zs (.returned (.slice (some ⟨w.heap.size, 0, none⟩) zs.length cap)) w' := by
  have hl : w.heap.size < w'.heap.size := (Array.getElem?_eq_some_iff.1 hc).1
  refine ⟨_, rfl, ⟨hb.os, hb.tape, hb.output, hb.size, fun k hk => hb.block k hk.1⟩, fun k o => M k o ∨ (k = w.heap.size ∧ zs.length ≤ o), fun _ _ _ h => .inl h, fun k o h => ?_, own_row hc hs hle hmax hz fun o => ⟨fun h => ?_, fun h => .inr ⟨rfl, h⟩⟩, fun k hk => ?_⟩
  · rcases h with h | ⟨rfl, _⟩
    · exact .inl h
    · exact .inr ⟨Nat.le_refl _, hl⟩
  · rcases h with h | ⟨_, h⟩
    · exact absurd (hlt _ _ h) (Nat.lt_irrefl _)
    · exact h
  · simp [ownB] at hk; subst hk; exact .inl (Nat.le_refl _)
theorem ins_same {M : Mut} {w w' : World} {g : Nat} {n0 cap0 : Nat} {zs : List Int} {cells : Array Value} {T : TypeId} {cap : Nat} (hM : ∀ o, M g o) (hfr : Fr (· ≠ g) w w') (hc : w'.heap[g]? = some (.cells cells T (0, 0)))
    (hs : cells.size = cap) (hle : zs.length ≤ cap) (hmax : cap ≤ maxLen) (hz : ∀ (j : Nat) z, zs[j]? = some z → cells[j]? = some (.int .i64 z)) :
    InsPost M w (.slice (some ⟨g, 0, none⟩) n0 cap0) zs (.returned (.slice (some ⟨g, 0, none⟩) zs.length cap)) w' := by
  refine ⟨_, rfl, ⟨hfr.os, hfr.tape, hfr.output, hfr.size, fun k hk => hfr.block k fun e => hk.2 (by subst e; rfl)⟩, fun k o => (k ≠ g ∧ M k o) ∨ (k = g ∧ zs.length ≤ o), fun k o hk h => .inl ⟨fun e => hk (by subst e; rfl), h⟩, fun k o h => ?_, own_row hc hs hle hmax hz fun o => ⟨fun h => ?_, fun h => .inr ⟨rfl, h⟩⟩, fun k hk => ?_⟩
  · rcases h with ⟨_, h⟩ | ⟨rfl, _⟩
    · exact .inl h
    · exact .inl (hM o)
  · rcases h with ⟨h, _⟩ | ⟨_, h⟩
    · exact absurd rfl h
    · exact h
  · exact .inr hk
theorem grown_size {l : List Value} {G m : Nat} (hl : l.length = m) (hm : m ≤ G) : (l.toArray ++ Builtin.zeroCells (Value.int .i64 0).cells (G - m)).size = G := by
  have hz1 : (Value.int .i64 0).cells.size = 1 := rfl
  rw [Array.size_append, size_zeroCells, hz1, List.size_toArray, hl]; omega
theorem grown_get {l : List Value} {Z : Array Value} {j : Nat} {v : Value} (h : l[j]? = some v) : (l.toArray ++ Z)[j]? = some v := by
  have hj : j < l.length := (List.getElem?_eq_some_iff.1 h).1
  rw [Array.getElem?_append_left (by simpa using hj)]
  simpa using h
theorem insert_calls {M : Mut} {w : World} {v0 v2 : Value} {xs : List Int} {i : Nat} {row : Int} (h0 : ArrAt M w (.int .i64) v0 xs) (h2 : RepC M w (.list (.int .i64)) [v2] [row]) (h2o : OwnAt M w 1 v2 1)
    (hne : ∀ k, ownB v0 = some k → ownB v2 ≠ some k) (hlt : ∀ k o, M k o → k < w.heap.size) (hi : i ≤ xs.length) (hn : xs.length < 1000000) :
    Calls Tryz.prog 109 #[v0, .int .i64 i, v2] w (InsPost M w v0 (ins xs i row)) := by
  obtain ⟨a2, c2, e2, hc2, hcell2⟩ := list_ints h2
  obtain ⟨b2, o2, ea2, hv2⟩ := hcell2 0 row rfl
  subst ea2
  have hvs : ∀ (j : Nat) v, [Value.int .i64 row][j]? = some v → w.cell? ⟨b2, o2 + j, none⟩ = some v := fun j v hj => by
    cases j with
    | zero => have : Value.int .i64 row = v := by simpa using hj
              subst this; exact hv2
    | succ j => simp at hj
  have h1v : ∀ v ∈ [Value.int .i64 row], v.oneCell' = true := fun v hv => by simp at hv; subst hv; rfl
  have hzl := ins_length xs row hi
  have e2' : v2 = .slice (some ⟨b2, o2, none⟩) 1 c2 := e2
  obtain ⟨g2, cap2, cells2, T2, hg2e, hg2⟩ : ∃ g2 cap2 cells2 T2, v2 = .slice (some ⟨g2, 0, none⟩) 1 cap2 ∧ w.heap[g2]? = some (.cells cells2 T2 (0, 0)) := by
    rcases h2o with ⟨h, _⟩ | ⟨g2, cap2, cells2, T2, h, h', _⟩
    · rw [e2'] at h; cases h
    · exact ⟨g2, cap2, cells2, T2, h, h'⟩
  rw [e2'] at hg2e
  cases hg2e
  subst e2'
  have hz1 : (Value.int .i64 0).cells.size = 1 := rfl
  rcases h0 with ⟨rfl, rfl⟩ | ⟨g, cap, cells, T, rfl, hg, hle, hmax, hsz, hM, hel⟩
  · -- nil
    have hi0 : i = 0 := by have : i ≤ 0 := hi; omega
    subst hi0
    have hcall : Calls Tryz.prog 109 #[.slice none 0 0, .int .i64 (0 : Nat), .slice (some ⟨b2, 0, none⟩) 1 c2] w _ :=
      Any2.slices_Insert_int_end_grow Tryz.laysNm221 none 0 0 b2 0 1 c2 [] [.int .i64 row] w (by omega) (Nat.le_refl 0) (by omega) (by omega) rfl rfl (fun _ => rfl) (fun a h => by cases h) hvs h1v
    refine hcall.mono ?_
    rintro e w' ⟨rfl, rfl⟩
    refine ins_new (zs := [row]) hlt ((Below.refl _ _).drew.alloc (Nat.le_refl _) _) (heap_alloc_new w.drew _) (grown_size (m := 0 + 1) rfl (grownCap_ge w (0 + 1) 0 _)) (grownCap_ge w (0 + 1) 0 _) (grownCap_le_maxLen w (0 + 1) 0 _ (by unfold maxLen; omega)) fun j z hj => grown_get ?_
    cases j with
    | zero => have : row = z := by simpa using hj
              subst this; rfl
    | succ j => simp at hj
  · have hsz' : cells.size = cap := hsz.trans (Nat.mul_one cap)
    have hget : ∀ (j : Nat) z, xs[j]? = some z → cells[j]? = some (.int .i64 z) := fun j z hj => by
      obtain ⟨hlt', e⟩ := List.getElem?_eq_some_iff.1 hj
      have h1 : (cells.toList.drop (j * 1)).take 1 = [.int .i64 xs[j]] := hel j hlt'
      rw [Nat.mul_one] at h1
      have h2 := congrArg (·[0]?) h1
      simp only [List.getElem?_take, List.getElem?_drop, Nat.add_zero] at h2
      have h3 : cells.toList[j]? = some (.int .i64 xs[j]) := by simpa using h2
      rw [e] at h3
      simpa using h3
    have hle' : xs.length ≤ cap := hle
    have hcl : (xs.map (Value.int .i64)).length = xs.length := List.length_map ..
    have hcs0 : ∀ (j : Nat) v, (xs.map (Value.int .i64))[j]? = some v → ∃ z, xs[j]? = some z ∧ v = .int .i64 z := fun j v hj => by
      rw [List.getElem?_map] at hj
      cases hz : xs[j]? with
      | none => rw [hz] at hj; cases hj
      | some z => rw [hz] at hj; cases hj; exact ⟨z, rfl, rfl⟩
    have hcs : ∀ (j : Nat) v, (xs.map (Value.int .i64))[j]? = some v → w.cell? ⟨g, 0 + j, none⟩ = some v := fun j v hj => by
      obtain ⟨z, h1, rfl⟩ := hcs0 j v hj
      rw [Nat.zero_add, cell_row hg]
      exact hget j z h1
    have hcsA : ∀ a, some (⟨g, 0, none⟩ : Addr) = some a → ∀ (j : Nat) v, (xs.map (Value.int .i64))[j]? = some v → w.cell? (a.add j) = some v := fun a h j v hj => by
      cases h
      have h9 := hcs j v hj
      rw [Nat.zero_add] at h9
      simp only [Addr.add, Nat.zero_add]
      split
      · rename_i e; subst e; exact h9
      · exact h9
    have h1c : ∀ v ∈ xs.map (Value.int .i64), v.oneCell' = true := fun v hv => by
      obtain ⟨z, _, rfl⟩ := List.mem_map.1 hv; rfl
    have hgb : b2 ≠ g := fun e => hne g rfl (by rw [e]; rfl)
    have hsome : ∀ j, j < cap → (w.cell? ⟨g, j, none⟩).isSome = true := fun j hj => by
      rw [cell_row hg, Array.getElem?_eq_getElem (by omega)]; rfl
    rcases Nat.lt_or_ge i xs.length with hilt | hige
    · rcases Nat.lt_or_ge cap (xs.length + 1) with hroom | hroom
      · -- a new row
        have hcall : Calls Tryz.prog 109 #[.slice (some ⟨g, 0, none⟩) xs.length cap, .int .i64 i, .slice (some ⟨b2, 0, none⟩) 1 c2] w _ :=
          Any2.slices_Insert_int_grow Tryz.laysNm221 g 0 xs.length cap i b2 0 1 c2 (xs.map (Value.int .i64)) [.int .i64 row] w hilt (by omega) hle' hroom (by omega) hcl rfl hcs hvs h1c h1v
        refine hcall.mono ?_
        rintro e w' ⟨rfl, rfl⟩
        obtain ⟨c1, a1, a2, a3, a4⟩ := heap_setCells_row w.heap.size [.int .i64 row] i ((w.alloc (.cells (((xs.map (Value.int .i64)).take i).toArray ++ Builtin.zeroCells (Value.int .i64 0).cells (xs.length + 1 - i) ++ Builtin.zeroCells (Value.int .i64 0).cells (grownCap w (xs.length + 1) cap 3 - (xs.length + 1))) 3)).drew) _ 3 (heap_alloc_new w _) (by simp [size_zeroCells, Value.cells]; omega)
        obtain ⟨c3, b1, b2, b3, b4⟩ := heap_setCells_row w.heap.size ((xs.map (Value.int .i64)).drop i) (i + 1) ((((w.alloc (.cells (((xs.map (Value.int .i64)).take i).toArray ++ Builtin.zeroCells (Value.int .i64 0).cells (xs.length + 1 - i) ++ Builtin.zeroCells (Value.int .i64 0).cells (grownCap w (xs.length + 1) cap 3 - (xs.length + 1))) 3)).drew).setCells w.heap.size i [.int .i64 row]).drew) c1 3 a1 (by rw [a2]; simp [size_zeroCells, Value.cells]; omega)
        have hG := grownCap_ge w (xs.length + 1) cap 3
        have hs0 : (((xs.map (Value.int .i64)).take i).toArray ++ Builtin.zeroCells (Value.int .i64 0).cells (xs.length + 1 - i) ++ Builtin.zeroCells (Value.int .i64 0).cells (grownCap w (xs.length + 1) cap 3 - (xs.length + 1))).size = grownCap w (xs.length + 1) cap 3 := by
          simp [size_zeroCells, Value.cells]; omega
        have hbel : Below w.heap.size w ((((w.alloc (.cells (((xs.map (Value.int .i64)).take i).toArray ++ Builtin.zeroCells (Value.int .i64 0).cells (xs.length + 1 - i) ++ Builtin.zeroCells (Value.int .i64 0).cells (grownCap w (xs.length + 1) cap 3 - (xs.length + 1))) 3)).drew.setCells w.heap.size i [.int .i64 row]).drew).setCells w.heap.size (i + 1) ((xs.map (Value.int .i64)).drop i)) := by
          have f0 := ((Below.refl w.heap.size w).alloc (Nat.le_refl _) (.cells (((xs.map (Value.int .i64)).take i).toArray ++ Builtin.zeroCells (Value.int .i64 0).cells (xs.length + 1 - i) ++ Builtin.zeroCells (Value.int .i64 0).cells (grownCap w (xs.length + 1) cap 3 - (xs.length + 1))) 3)).drew
          have f1 := fr_setCells w.heap.size [.int .i64 row] i _ |>.of_below f0
          exact fr_setCells w.heap.size _ (i + 1) _ |>.of_below f1.drew
        have := ins_new (M := M) (v0 := .slice (some ⟨g, 0, none⟩) xs.length cap) (zs := ins xs i row) hlt hbel b1 (b2.trans (a2.trans hs0)) (by rw [hzl]; exact hG) (grownCap_le_maxLen w (xs.length + 1) cap 3 (by unfold maxLen; omega)) fun j z hj => ?_
        · rw [hzl] at this; exact this
        · rw [ins_get xs row hi] at hj
          split at hj
          · rename_i hji
            rw [b4 j (.inl (by omega)), a4 j (.inl hji)]
            have hjt : ((xs.map (Value.int .i64)).take i)[j]? = some (.int .i64 z) := by
              rw [List.getElem?_take_of_lt hji, List.getElem?_map, hj]; rfl
            rw [Array.append_assoc]
            exact grown_get hjt
          · split at hj
            · rename_i _ hji
              have hz : row = z := by simpa using hj
              have := a3 0 (.int .i64 row) rfl
              rw [Nat.add_zero] at this
              rw [hji, b4 i (.inl (by omega)), this, hz]
            · rename_i h1 h2
              obtain ⟨k, hk⟩ : ∃ k, j = i + 1 + k := ⟨j - i - 1, by omega⟩
              subst hk
              exact b3 k (.int .i64 z) (by rw [List.getElem?_drop, List.getElem?_map, show i + k = i + 1 + k - 1 by omega, hj]; rfl)
      · -- in the row
        have hcall : Calls Tryz.prog 109 #[.slice (some ⟨g, 0, none⟩) xs.length cap, .int .i64 i, .slice (some ⟨b2, 0, none⟩) 1 c2] w _ :=
          Any2.slices_Insert_int_shift Tryz.laysNm221 g 0 xs.length cap i b2 0 1 c2 (xs.map (Value.int .i64)) [.int .i64 row] w hilt (by omega) hroom (by unfold maxLen at hmax; omega) hgb hcl rfl hcs
            (fun j hj => by rw [Nat.zero_add]; exact hsome j (by omega)) (fun j _ => frozen_row hg _) hvs h1c h1v T2 T cells2.size cells.size (shape_row hg2) (shape_row hg) (by omega) (frozen_row hg2 _) (frozen_row hg2 _)
        refine hcall.mono ?_
        rintro e w' ⟨rfl, rfl⟩
        obtain ⟨c1, a1, a2, a3, a4⟩ := heap_setCells_row g ((xs.map (Value.int .i64)).drop i) (0 + (i + 1)) w.drew cells T hg (by rw [List.length_drop, hcl]; omega)
        obtain ⟨c3, b1, b2, b3, b4⟩ := heap_setCells_row g [.int .i64 row] (0 + i) (w.drew.setCells g (0 + (i + 1)) ((xs.map (Value.int .i64)).drop i)) c1 T a1 (by rw [a2]; show 0 + i + 1 ≤ _; omega)
        have hfr : Fr (· ≠ g) w ((w.drew.setCells g (0 + (i + 1)) ((xs.map (Value.int .i64)).drop i)).setCells g (0 + i) [.int .i64 row]) := ((Fr.refl _ w).drew.trans (fr_setCells g _ _ _)).trans (fr_setCells g _ _ _)
        have := ins_same (M := M) (n0 := xs.length) (cap0 := cap) (zs := ins xs i row) hM hfr b1 (b2.trans (a2.trans hsz')) (by rw [hzl]; exact hroom) hmax fun j z hj => ?_
        · rw [hzl] at this; exact this
        · rw [ins_get xs row hi] at hj
          split at hj
          · rename_i hji
            rw [b4 j (.inl (by omega)), a4 j (.inl (by omega))]
            exact hget j z hj
          · split at hj
            · rename_i _ hji
              have hz : row = z := by simpa using hj
              have := b3 0 (.int .i64 row) rfl
              rw [show 0 + i + 0 = j by omega] at this
              rw [this, hz]
            · rename_i h1 h2
              obtain ⟨k, hk⟩ : ∃ k, j = i + 1 + k := ⟨j - i - 1, by omega⟩
              subst hk
              rw [b4 _ (.inr (by show 0 + i + 1 ≤ _; omega))]
              have := a3 k (.int .i64 z) (by rw [List.getElem?_drop, List.getElem?_map, show i + k = i + 1 + k - 1 by omega, hj]; rfl)
              rw [show 0 + (i + 1) + k = i + 1 + k by omega] at this
              exact this
    · have hin : i = xs.length := Nat.le_antisymm hi hige
      subst hin
      rcases Nat.lt_or_ge cap (xs.length + 1) with hroom | hroom
      · have hcall : Calls Tryz.prog 109 #[.slice (some ⟨g, 0, none⟩) xs.length cap, .int .i64 xs.length, .slice (some ⟨b2, 0, none⟩) 1 c2] w _ :=
          Any2.slices_Insert_int_end_grow Tryz.laysNm221 (some ⟨g, 0, none⟩) xs.length cap b2 0 1 c2 (xs.map (Value.int .i64)) [.int .i64 row] w (by omega) hle' hroom (by omega) hcl rfl (fun h => by cases h) hcsA hvs h1v
        refine hcall.mono ?_
        rintro e w' ⟨rfl, rfl⟩
        have hcl' : (xs.map (Value.int .i64) ++ [Value.int .i64 row]).length = xs.length + 1 := by simp
        have hG := grownCap_ge w (xs.length + 1) cap 3
        have := ins_new (M := M) (w := w) (T := 3) (v0 := .slice (some ⟨g, 0, none⟩) xs.length cap) (zs := ins xs xs.length row) hlt ((Below.refl _ _).drew.alloc (Nat.le_refl _) _) (heap_alloc_new w.drew _) (grown_size hcl' hG) (by rw [hzl]; exact hG) (grownCap_le_maxLen w (xs.length + 1) cap 3 (by unfold maxLen; omega)) fun j z hj => grown_get ?_
        · rw [hzl] at this; exact this
        · rw [ins_get xs row hi] at hj
          split at hj
          · rename_i hji
            rw [List.getElem?_append_left (by rw [hcl]; exact hji), List.getElem?_map, hj]; rfl
          · split at hj
            · rename_i _ hji
              have hz : row = z := by simpa using hj
              rw [List.getElem?_append_right (by omega), hcl, hji, Nat.sub_self, hz]; rfl
            · rename_i h1 h2
              have : j - 1 < xs.length := (List.getElem?_eq_some_iff.1 hj).1
              omega
      · have hcall : Calls Tryz.prog 109 #[.slice (some ⟨g, 0, none⟩) xs.length cap, .int .i64 xs.length, .slice (some ⟨b2, 0, none⟩) 1 c2] w _ :=
          Any2.slices_Insert_int_end_room Tryz.laysNm221 g 0 xs.length cap b2 0 1 c2 [.int .i64 row] w (by omega) hroom (by unfold maxLen at hmax; omega) rfl
            (fun j hj => by rw [Nat.zero_add]; exact hsome _ (by omega)) (fun j _ => frozen_row hg _) hvs h1v
        refine hcall.mono ?_
        rintro e w' ⟨rfl, rfl⟩
        obtain ⟨c1, a1, a2, a3, a4⟩ := heap_setCells_row g [.int .i64 row] (0 + xs.length) w cells T hg (by show 0 + xs.length + 1 ≤ _; omega)
        have := ins_same (M := M) (n0 := xs.length) (cap0 := cap) (zs := ins xs xs.length row) hM (fr_setCells g [.int .i64 row] (0 + xs.length) w) a1 (a2.trans hsz') (by rw [hzl]; exact hroom) hmax fun j z hj => ?_
        · rw [hzl] at this; exact this
        · rw [ins_get xs row hi] at hj
          split at hj
          · rename_i hji
            rw [a4 j (.inl (by omega))]
            exact hget j z hj
          · split at hj
            · rename_i _ hji
              have hz : row = z := by simpa using hj
              have := a3 0 (.int .i64 row) rfl
              rw [show 0 + xs.length + 0 = j by omega] at this
              rw [this, hz]
            · rename_i h1 h2
              have : j - 1 < xs.length := (List.getElem?_eq_some_iff.1 hj).1
              omega
def f109 (x : List Int × Int × List Int × Unit) : Out (List Int) :=
  match x.2.2.1 with
  | [row] => bif decide (0 ≤ x.2.1) && decide (x.2.1 ≤ x.1.length) && decide (x.1.length < 1000000) then .ret (ins x.1 x.2.1.toNat row) else .fail
  | _ => .fail
theorem f109_ret {xs : List Int} {y : Int} {ys : List Int} {r : List Int} (h : f109 (xs, y, ys, ()) = .ret r) : ∃ (row : Int) (i : Nat), ys = [row] ∧ y = (i : Int) ∧ i ≤ xs.length ∧ xs.length < 1000000 ∧ ins xs i row = r := by
  match ys, h with
  | [row], h =>
    obtain ⟨hc, hr⟩ := bif_ret h
    simp only [Bool.and_eq_true, decide_eq_true_eq] at hc
    obtain ⟨⟨c1, c2⟩, c3⟩ := hc
    exact ⟨row, y.toNat, rfl, (Int.toNat_of_nonneg c1).symm, by omega, c3, hr⟩
  | [], h => cases h
  | _ :: _ :: _, h => cases h
def sp109 : Spec := ⟨109, .take, .prod (.list (.int .i64)) (.prod (.int .i64) (.prod (.list (.int .i64)) .unit)), .list (.int .i64), false, true, f109⟩
theorem c109 : Contract Tryz.prog sp109 := by
  intro e t1 e2 he xs y ys M w v0 v1 v2 r hI h0 h1 h2 h2o hne hlt hf
  have he' : Ty.prod (.list (.int .i64)) (.prod (.int .i64) (.prod (.list (.int .i64)) .unit)) = .prod (.list e) (.prod t1 (.prod (.list e2) .unit)) := he
  cases he'
  have hr : f109 (xs, y, ys, ()) = .ret r := hf (xs, y, ys, ()) rfl
  obtain ⟨row, i, hys, hy, hi', c3, hr'⟩ := f109_ret hr
  subst hys
  subst hy
  obtain ⟨cs, e1, e2⟩ := h1
  have e3 : cs = [.int .i64 (i : Int)] := e2
  subst e3
  have e4 : v1 = .int .i64 (i : Int) := e1
  subst e4
  refine (insert_calls (M := M) (xs := xs) (i := i) (row := row) h0 h2 h2o hne hlt hi' c3).mono ?_
  rintro z w' ⟨v, h1, h2, M', m1, m2, m3, m4⟩
  subst hr'
  exact ⟨v, h1, h2, M', m1, m2, m3, fun k _ hk => m4 k hk⟩
end Go.V
