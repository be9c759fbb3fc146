/- A part of the proof of a law of the step table. -/
import Derived.Test.YtpnilbemlgbokaaGreatDoorSP
set_option linter.all false
/- lists$1$1, the region that tries a row: in whatever order. -/
namespace Go.V
open Go.Proofs
open Go.RowKit (Below)

/-- What a walk through all lists has: what the loop asks for, its own blocks. -/
structure Ctx where
  J : Nat → Mut → World → Prop
  Jx : World → Prop
  W : World
  N0 : Mut
  l : Nat
  ys : List (List Int)
  t : ST
  bt : Nat
  ot : Nat
  ya : Nat
  xa : Nat
  pa : Nat
  ma : Nat
  p : Option Addr
  n : Nat
  c : Nat
  R : Nat → Prop

def Sure (t : ST) (a b : Int) (s : Bool) : Prop := fsure t a b = .ret s
def HasMemo (t : ST) (ma : Nat) (w : World) : Prop := ∃ es clock, w.heap[ma]? = some (.map es clock) ∧ Memo (Sure t) es

namespace Ctx
def PT (K : Ctx) : Value := .pointer (some ⟨K.bt, K.ot, none⟩)
def PY (K : Ctx) : Value := .pointer (some ⟨K.ya, 0, none⟩)
def PX (K : Ctx) : Value := .pointer (some ⟨K.xa, 0, none⟩)
def PP (K : Ctx) : Value := .pointer (some ⟨K.pa, 0, none⟩)
def PF (K : Ctx) : Value := .func (.func 141) #[] #[K.PT, K.PY, K.PX, K.PP]

structure OK (K : Ctx) : Prop where
  gey : K.W.heap.size ≤ K.ya
  gex : K.W.heap.size ≤ K.xa
  gep : K.W.heap.size ≤ K.pa
  gem : K.W.heap.size ≤ K.ma
  ney : K.ya ≠ K.ma
  nex : K.xa ≠ K.ma
  nep : K.pa ≠ K.ma
  inv : ∀ i M1 W1, K.J i M1 W1 → Inv.I Tryz.prog W1
  step : ∀ i M1 W1 W2, K.J i M1 W1 → IterStep K.W W1 W2 → K.J i M1 W2
  stepx : ∀ W1 W2, K.Jx W1 → IterStep K.W W1 W2 → K.Jx W2
  rlt : ∀ b, K.R b → b < K.W.heap.size
  round : ∀ i M1 W1 u y, K.J i M1 W1 → K.ys[i]? = some y → RepV M1 W1 (.list (.int .i64)) u y → ∃ fn tmps assign body, (Instr.yield K.l #[u]).run Tryz.prog W1 = .ok (.round K.l fn tmps assign body) W1 ∧
    RoundIn Fence.wide 0 Tryz.prog K.l fn tmps assign body W1 fun r W2 => (r = .returned (.bool true) ∧ ∃ M2, K.J (i + 1) M2 W2 ∧ RoundKeeps K.R M1 W1 M2 W2) ∨ (r = .returned (.bool false) ∧ K.Jx W2)
  rep : RepC K.N0 K.W (.list (.prod (.int .i64) (.prod (.int .i64) .unit))) [.slice K.p K.n K.c] K.t.1
  cell : K.W.cell? ⟨K.bt, K.ot, none⟩ = some (.slice K.p K.n K.c) ∧ ¬ K.N0 K.bt K.ot

structure At (K : Ctx) (i : Nat) (M1 : Mut) (W1 : World) : Prop where
  j : K.J i M1 W1
  size : K.W.heap.size ≤ W1.heap.size
  hy : W1.heap[K.ya]? = some (.cells #[.func (.yield K.l) #[] #[]] 102 (0, 0))
  hx : W1.heap[K.xa]? = some (.cells #[.slice K.p K.n K.c, .int .i64 K.t.2.1, .int .i64 K.t.2.2.1, .slice none 0 0, .map (some K.ma)] 99 (0, 0))
  hp : W1.heap[K.pa]? = some (.cells #[K.PF] 102 (0, 0))
  hm : HasMemo K.t K.ma W1
  mu : ∀ k o, M1 k o → k < W1.heap.size ∧ k ≠ K.ya ∧ k ≠ K.xa ∧ k ≠ K.pa ∧ k ≠ K.ma
  keep : Stable K.N0 K.W M1 W1

theorem iterStep {K : Ctx} (hK : K.OK) {i : Nat} {M1 : Mut} {W1 W2 : World} (h : K.At i M1 W1) (hf : Fr (fun k => k < W1.heap.size ∧ k ≠ K.ma) W1 W2) : IterStep K.W W1 W2 := by
  refine ⟨⟨hf.os, hf.tape, hf.output, hf.size, fun k hk => hf.block k ⟨Nat.lt_of_lt_of_le hk h.size, fun e => ?_⟩⟩, fun k ob h1 h2 => ?_⟩
  · have := hK.gem; omega
  · rw [hf.block k ⟨(Array.getElem?_eq_some_iff.1 h1).1, fun e => ?_⟩]
    · exact h1
    · obtain ⟨es, cl, h3, _⟩ := h.hm
      rw [e, h3] at h1
      cases h1
      cases h2

theorem At.go {K : Ctx} (hK : K.OK) {i : Nat} {M1 : Mut} {W1 W2 : World} (h : K.At i M1 W1) (hf : Fr (fun k => k < W1.heap.size ∧ k ≠ K.ma) W1 W2) (hm : HasMemo K.t K.ma W2) : K.At i M1 W2 := by
  have hs := iterStep hK h hf
  have lt : ∀ {k : Nat} {ob : Obj}, W1.heap[k]? = some ob → k < W1.heap.size := fun e => (Array.getElem?_eq_some_iff.1 e).1
  refine ⟨hK.step _ _ _ _ h.j hs, Nat.le_trans h.size hf.size, (hf.block _ ⟨lt h.hy, hK.ney⟩).trans h.hy, (hf.block _ ⟨lt h.hx, hK.nex⟩).trans h.hx, (hf.block _ ⟨lt h.hp, hK.nep⟩).trans h.hp, hm, fun k o hk => ?_, h.keep.trans (stable_cells hs.2)⟩
  obtain ⟨h1, h2⟩ := h.mu k o hk
  exact ⟨Nat.lt_of_lt_of_le h1 hf.size, h2⟩

theorem At.stable {K : Ctx} (hK : K.OK) {i : Nat} {M1 : Mut} {W1 W2 : World} (h : K.At i M1 W1) (hf : Fr (fun k => k < W1.heap.size ∧ k ≠ K.ma) W1 W2) : Stable M1 W1 M1 W2 := stable_cells (iterStep hK h hf).2
end Ctx

def Closed7 (L : Nat → Bool) : Prop := ∀ x y, waits ops7 x y = true → L y = true → L x = true

section
variable (K : Ctx) (i0 cnt : Nat) (M1 : Mut) (W1 : World) (now : List Int) (v : Value) (fr t2 : Int) (s : Bool)

def R12 (u : Value) (w : World) : Prop := (u = .bool true ∧ ∃ M2, K.At (i0 + cnt) M2 w ∧ Stable M1 W1 M2 w) ∨ (u = .bool false ∧ K.Jx w)

def Item (u x : Value) (w : World) : Nat → Prop
  | 0 => u = .agg #[.slice K.p K.n K.c, .int .i64 K.t.2.1, .int .i64 K.t.2.2.1, .slice none 0 0, .map (some K.ma)]
  | 1 => u = .int .i64 fr
  | 2 => u = .int .i64 t2
  | 3 => u = pairV fr t2
  | 4 => u = .bool s
  | 5 => u = .bool s
  | 6 => s = true → u = K.PF
  | 7 => s = true → u = v
  | 8 => s = true → w.ownsRow W1.heap.size 3 1 u now.length (now.map (Value.int .i64))
  | 9 => s = true → u = .int .i64 t2
  | 10 => s = true → ∃ b, u = .slice (some ⟨b, 0, none⟩) 1 1 ∧ w.cell? ⟨b, 0, none⟩ = some (.int .i64 t2)
  | 11 => s = true → w.ownsRow W1.heap.size 3 1 u (now ++ [t2]).length ((now ++ [t2]).map (Value.int .i64))
  | 12 => s = true → R12 K i0 cnt M1 W1 u w
  | 13 => s = true → ∃ bb, x = .bool bb ∧ u = .bool (!bb)
  | 14 => (s = false ∧ u = .bool false) ∨ (s = true ∧ ∃ bb, x = .bool bb ∧ u = .bool (!bb))
  | _ => True

def Live (L : Nat → Bool) : Nat → Prop
  | 8 => L 11 = false
  | 10 => L 11 = false
  | 11 => L 12 = false
  | _ => True

def WP (w : World) : Prop := Fr (fun k => k < W1.heap.size ∧ k ≠ K.ma) W1 w ∧ HasMemo K.t K.ma w

structure RI (a0 : Act) (L : Nat → Bool) (a : Act) (w : World) : Prop where
  cl : Closed7 L
  size : a.tmps.size = 48
  defers : a.defers = []
  home : ∀ j, j < 33 → tm a j = tm a0 j
  item : ∀ j, L j = true → Live L j → Item K i0 cnt M1 W1 now v fr t2 s (tm a (33 + j)) (tm a 45) w j
  wp : (s = true → L 12 = false) → WP K W1 w
end

section
variable {K : Ctx} {i0 cnt : Nat} {M1 : Mut} {W1 : World} {now : List Int} {v : Value} {fr t2 : Int} {s : Bool}

theorem Item.mono {u x x' : Value} {w w' : World} : ∀ (j : Nat), Item K i0 cnt M1 W1 now v fr t2 s u x w j → ((j = 8 ∨ j = 11) → ∀ k xs, w.ownsRow W1.heap.size 3 1 u k xs → w'.ownsRow W1.heap.size 3 1 u k xs) →
    (j = 10 → ∀ b y, w.cell? ⟨b, 0, none⟩ = some y → w'.cell? ⟨b, 0, none⟩ = some y) → (j = 12 → w' = w) → ((j = 13 ∨ j = 14) → x' = x) → Item K i0 cnt M1 W1 now v fr t2 s u x' w' j
  | 0, h, _, _, _, _ => h
  | 1, h, _, _, _, _ => h
  | 2, h, _, _, _, _ => h
  | 3, h, _, _, _, _ => h
  | 4, h, _, _, _, _ => h
  | 5, h, _, _, _, _ => h
  | 6, h, _, _, _, _ => h
  | 7, h, _, _, _, _ => h
  | 8, h, h1, _, _, _ => fun hs => h1 (.inl rfl) _ _ (h hs)
  | 9, h, _, _, _, _ => h
  | 10, h, _, h2, _, _ => fun hs => let ⟨b, e1, e2⟩ := h hs; ⟨b, e1, h2 rfl _ _ e2⟩
  | 11, h, h1, _, _, _ => fun hs => h1 (.inr rfl) _ _ (h hs)
  | 12, h, _, _, h3, _ => by rw [h3 rfl]; exact h
  | 13, h, _, _, _, h4 => by rw [h4 (.inl rfl)]; exact h
  | 14, h, _, _, _, h4 => by rw [h4 (.inr rfl)]; exact h
  | _ + 15, _, _, _, _, _ => trivial

theorem Live.less {L : Nat → Bool} {i : Nat} : ∀ (j : Nat), Live (fun k => L k || k == i) j → Live L j
  | 8, h => (Bool.or_eq_false_iff.1 h).1
  | 10, h => (Bool.or_eq_false_iff.1 h).1
  | 11, h => (Bool.or_eq_false_iff.1 h).1
  | 0, _ => trivial
  | 1, _ => trivial
  | 2, _ => trivial
  | 3, _ => trivial
  | 4, _ => trivial
  | 5, _ => trivial
  | 6, _ => trivial
  | 7, _ => trivial
  | 9, _ => trivial
  | _ + 12, _ => trivial

theorem RI.step {a0 : Act} {L : Nat → Bool} {a : Act} {w w' : World} {i : Nat} {u : Value} (h : RI K i0 cnt M1 W1 now v fr t2 s a0 L a w) (hi : i < 15) (hni : L i = false) (hr : ∀ j, waits ops7 j i = true → L j = true)
    (hmono : i = 11 ∨ i = 12 ∨ ((∀ u k xs, w.ownsRow W1.heap.size 3 1 u k xs → w'.ownsRow W1.heap.size 3 1 u k xs) ∧ ∀ b y, w.cell? ⟨b, 0, none⟩ = some y → w'.cell? ⟨b, 0, none⟩ = some y))
    (h12 : L 12 = true → w' = w) (hit : Item K i0 cnt M1 W1 now v fr t2 s u (tm a 45) w' i) (hw : (s = true → L 12 = false ∧ i ≠ 12) → WP K W1 w') :
    RI K i0 cnt M1 W1 now v fr t2 s a0 (fun k => L k || k == i) (a.put (some (33 + i)) u) w' := by
  have hlt : 33 + i < a.tmps.size := by rw [h.size]; omega
  refine ⟨fun x y hxy hy => ?_, size_put.trans h.size, defers_put.trans h.defers, fun j hj => ?_, fun j hjL hl => ?_, fun hs => hw fun e => ?_⟩
  · show (L x || x == i) = true
    rcases Bool.or_eq_true_iff.1 hy with hy | hy
    · rw [h.cl x y hxy hy]; rfl
    · have : y = i := by simpa using hy
      subst this
      rw [hr x hxy]; rfl
  · rw [tm_put_other (by omega)]; exact h.home j hj
  · by_cases e : j = i
    · subst e
      rw [tm_put_same hlt]
      refine Item.mono j hit (fun _ _ _ h => h) (fun _ _ _ h => h) (fun _ => rfl) fun hj => ?_
      rw [tm_put_other (by omega)]
    · have hLj : L j = true := by
        rcases Bool.or_eq_true_iff.1 hjL with h | h
        · exact h
        · exact absurd (by simpa using h) e
      rw [tm_put_other (by omega)]
      refine Item.mono j (h.item j hLj (Live.less j hl)) (fun hj => ?_) (fun hj => ?_) (fun hj => ?_) (fun hj => ?_)
      · rcases hmono with rfl | rfl | hm
        · rcases hj with rfl | rfl
          · have : (L 11 || 11 == 11) = false := hl
            simp at this
          · exact absurd rfl e
        · rcases hj with rfl | rfl
          · have : (L 11 || 11 == 12) = false := hl
            have h11 := hr 11 waits7.2.2.2.2.2.2.2.2.2.2.2.2.2.2.2.2.1
            rw [h11] at this
            simp at this
          · have : (L 12 || 12 == 12) = false := hl
            simp at this
        · exact fun k xs => hm.1 _ k xs
      · rcases hmono with rfl | rfl | hm
        · subst hj
          have : (L 11 || 11 == 11) = false := hl
          simp at this
        · subst hj
          have : (L 11 || 11 == 12) = false := hl
          have h11 := hr 11 waits7.2.2.2.2.2.2.2.2.2.2.2.2.2.2.2.2.1
          rw [h11] at this
          simp at this
        · exact hm.2
      · subst hj
        exact h12 hLj
      · by_cases e12 : i = 12
        · subst e12
          have h13 : L 13 = true := by
            rcases hj with rfl | rfl
            · exact hLj
            · exact h.cl 13 14 waits7.2.2.2.2.2.2.2.2.2.2.2.2.2.2.2.2.2.2.2.2.2 hLj
          have := h.cl 12 13 waits7.2.2.2.2.2.2.2.2.2.2.2.2.2.2.2.2.2.2.1 h13
          rw [hni] at this
          cases this
        · rw [tm_put_other (by omega)]
  · obtain h' := hs e
    rcases Bool.or_eq_false_iff.1 h' with ⟨h1, h2⟩
    exact ⟨h1, fun e => by subst e; simp at h2⟩
end
end Go.V
