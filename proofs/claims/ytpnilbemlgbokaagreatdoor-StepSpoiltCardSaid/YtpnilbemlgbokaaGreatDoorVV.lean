/- A part of the proof of a law of the step table. -/
import Derived.Test.YtpnilbemlgbokaaGreatDoorVI
set_option linter.all false
namespace Go.V
section
variable {ρ : Type} (P : Program) (Φ : Nat → List Spec) (hints : List (Nat × List Nat)) (N : Nat)
def vcutE (E : (X → St → Out ρ) → St → Out ρ) : List Nat → Code → (X → St → Out ρ) → St → Out ρ
  | [], _, k, st => E k st
  | p :: ps, .seq a b, k, st => (match p with
    | 0 => vcutE E ps a (fun e s => match e with | .normal => vexec P Φ hints N b none k s | e => k e s) st
    | _ => vexec P Φ hints N a none (fun e s => match e with | .normal => vcutE E ps b k s | e => k e s) st)
  | _ :: ps, .block id b, k, st => vcutE E ps b (fun e s => match e with
      | .exit i => if i = id then k .normal s else k (.exit i) s
      | e => k e s) st
  | _ :: ps, .scope b, k, st => vcutE E ps b k st
  | _, _, _, _ => .fail
end
def vfnE (P : Program) (Φ : Nat → List Spec) (hints : List (Nat × List Nat)) (N : Nat) (E : {ρ : Type} → (X → St → Out ρ) → St → Out ρ) (path : List Nat) (f : Func) (multi own : Bool) (a t : Ty) (x : a.den) : Out t.den :=
  vcutE P Φ hints N E path (bodyOf f) (kEnd P f.results.toList multi own t) (st0 f.ntmps a x)
section
variable {P : Program} [Inv P] {Φ : Nat → List Spec} {ρ : Type}
def EOK (P : Program) [Inv P] (c : Code) (E : {ρ : Type} → (X → St → Out ρ) → St → Out ρ) : Prop :=
  ∀ {ρ : Type} {fin : Out ρ} (_ : fin ≠ .fail) (F : Nat → Prop) (M0 : Base) (w0 : World) (n : Nat), (∀ w, Fr F w0 w → Inv.I P w) → (∀ j v, M0.pin j = some v → False) →
    ∀ (k : X → St → Out ρ) (Q : Exit → Act → World → Prop), (∀ p q, fin = .pan p → Like p q → ∀ st a w, Conc F M0 w0 st a w → Q (.panic [{ v := q, recovered := false }]) a w) →
      (∀ x st a w, Conc F M0 w0 st a w → k x st = fin → Q x.exit' a w) → ∀ st a w, Conc F M0 w0 st a w → E k st = fin → c.wpIn (fen none) n P Q a w
theorem cutE_ok (hΦ : ∀ g sp, sp ∈ Φ g → Contract P sp) (hm : P.follows .mixedOrders = true) (hints : List (Nat × List Nat)) (N : Nat) {fin : Out ρ} (hf : fin ≠ .fail) {E : {ρ : Type} → (X → St → Out ρ) → St → Out ρ} {F : Nat → Prop} {M0 : Base} {w0 : World} {n : Nat}
    (hI : ∀ w, Fr F w0 w → Inv.I P w) (hpl : ∀ j v, M0.pin j = some v → False) : ∀ (path : List Nat) (c r : Code), atWay path c = some r → EOK P r E → ∀ (k : X → St → Out ρ) (Q : Exit → Act → World → Prop),
      (∀ p q, fin = .pan p → Like p q → ∀ st a w, Conc F M0 w0 st a w → Q (.panic [{ v := q, recovered := false }]) a w) →
      (∀ x st a w, Conc F M0 w0 st a w → k x st = fin → Q x.exit' a w) → ∀ st a w, Conc F M0 w0 st a w → vcutE P Φ hints N E path c k st = fin → c.wpIn (fen none) n P Q a w
  | [], c, r, hr, hR, k, Q, hp, hQ, st, a, w, hc, h => by
    cases hr
    exact hR hf F M0 w0 n hI hpl k Q hp hQ st a w hc h
  | 0 :: ps, .seq x y, r, hr, hR, k, Q, hp, hQ, st, a, w, hc, h => by
    refine wpIn_seq (cutE_ok hΦ hm hints N hf hI hpl ps x r hr hR _ _ ?_ ?_ st a w hc h)
    · intro p q e hq st a w hc; exact hp p q e hq st a w hc
    · intro e st a w hc h
      cases e with
      | normal => exact code_ok hΦ hm hints N hf y F M0 w0 none none n (fun _ => rfl) hI (fun j v hj => (hpl j v hj).elim) k Q (fun _ => hp) hQ st a w hc h
      | exit i => exact hQ (.exit i) st a w hc h
      | ret => exact hQ .ret st a w hc h
  | (_ + 1) :: ps, .seq x y, r, hr, hR, k, Q, hp, hQ, st, a, w, hc, h => by
    refine wpIn_seq (code_ok hΦ hm hints N hf x F M0 w0 none none n (fun _ => rfl) hI (fun j v hj => (hpl j v hj).elim) _ _ ?_ ?_ st a w hc h)
    · intro _ p q e hq st a w hc; exact hp p q e hq st a w hc
    · intro e st a w hc h
      cases e with
      | normal => exact cutE_ok hΦ hm hints N hf hI hpl ps y r hr hR k Q hp hQ st a w hc h
      | exit i => exact hQ (.exit i) st a w hc h
      | ret => exact hQ .ret st a w hc h
  | _ :: ps, .block id b, r, hr, hR, k, Q, hp, hQ, st, a, w, hc, h => by
    refine wpIn_block (cutE_ok hΦ hm hints N hf hI hpl ps b r hr hR _ _ ?_ ?_ st a w hc h)
    · intro p q e hq st a w hc; exact hp p q e hq st a w hc
    · intro x st a w hc h
      cases x with
      | normal => exact hQ .normal st a w hc h
      | ret => exact hQ .ret st a w hc h
      | exit i =>
        show if i = id then _ else _
        dsimp only at h
        split
        · rename_i e; rw [if_pos e] at h; exact hQ .normal st a w hc h
        · rename_i e; rw [if_neg e] at h; exact hQ (.exit i) st a w hc h
  | _ :: ps, .scope b, r, hr, hR, k, Q, hp, hQ, st, a, w, hc, h => by
    refine wpIn_wide.2 (wp_scope_straight ((wpIn_wide (n := n)).1 (cutE_ok hΦ hm hints N hf hI hpl ps b r hr hR k _ ?_ ?_ st a w hc h)))
    · intro p q e hq st a w hc; exact hp p q e hq st a w hc
    · intro x st a w hc h
      have := hQ x st a w hc h
      cases x <;> exact this
  | _ :: _, .skip, _, hr, _, _, _, _, _, _, _, _, _, _ => by cases hr
  | _ :: _, .region _ _ _, _, hr, _, _, _, _, _, _, _, _, _, _ => by cases hr
  | _ :: _, .cond _ _ _, _, hr, _, _, _, _, _, _, _, _, _, _ => by cases hr
  | _ :: _, .loop _, _, hr, _, _, _, _, _, _, _, _, _, _ => by cases hr
  | _ :: _, .rangeFunc _ _ _ _, _, hr, _, _, _, _, _, _, _, _, _, _ => by cases hr
  | _ :: _, .exit _, _, hr, _, _, _, _, _, _, _, _, _, _ => by cases hr
  | _ :: _, .label _, _, hr, _, _, _, _, _, _, _, _, _, _ => by cases hr
  | _ :: _, .goto _, _, hr, _, _, _, _, _, _, _, _, _, _ => by cases hr
  | _ :: _, .ret, _, hr, _, _, _, _, _, _, _, _, _, _ => by cases hr
  | _ :: _, .refuse _, _, hr, _, _, _, _, _, _, _, _, _, _ => by cases hr
theorem contract_cutE (hm : P.follows .mixedOrders = true) {l : List Spec} (hl : ∀ sp ∈ l, Contract P sp) {fnn : Nat} {arg res : Ty} {multi own : Bool} {F : arg.den → Out res.den} {fn : Func} {c r : Code}
    (hfn : P.funcs[fnn]? = some fn) (hb : fn.body = some c) {E : {ρ : Type} → (X → St → Out ρ) → St → Out ρ} {path : List Nat} (hr : atWay path c = some r) (hR : EOK P r E) (hints : List (Nat × List Nat))
    (h : ∀ x, F x ≠ .fail → ∃ n, vfnE P (phi l) hints n E path fn multi own arg res x = F x) : Contract P ⟨fnn, .call, arg, res, multi, own, F⟩ := by
  intro x M w vs hI hvs hlt
  have hI' : ∀ w', Fr (· < w.heap.size) w w' → Inv.I P w' := fun w' hf => Inv.below _ _ hI hf.toBelow
  have hdm : ∀ D, (base0 M w).dm D → ¬ (D < w.heap.size) := fun D hD => Nat.not_lt.2 hD
  have hst := start (n := fn.ntmps) hvs hlt
  cases hx : F x with
  | fail => simp only [hx]
  | ret r0 =>
    obtain ⟨n, hv⟩ := h x (by rw [hx]; simp)
    rw [hx] at hv
    unfold vfnE bodyOf at hv
    rw [hb] at hv
    simp only [hx]
    refine callsIn_wide.1 (callsIn_of_wp_marks (n := 0) hfn hb trivial (cutE_ok (phi_ok hl) hm hints n (by simp) hI' (fun j v hj => by cases hj) path c r hr hR _ _ ?_ ?_ _ _ _ ⟨Fr.refl _ _, M, hst⟩ hv))
    · intro p q hp; cases hp
    · intro e st a w' hc hk
      have key : vres P fn.results.toList multi own res st = .ret r0 → LeavesInM Fence.wide 0 P fn a.tmps (fun e w' => ∃ v, e = .returned v ∧ Go.RowKit.Below w.heap.size w w' ∧ ResOK M w w' multi own res v r0) a.defers .returning w' := by
        intro hk
        obtain ⟨hb', M', hg⟩ := hc
        refine leave (M0 := base0 M w) (F := (· < w.heap.size)) (w0 := w) (st := st) (by simp) (fun M2 w2 hg2 hf2 => ?_) hdm a.defers M' w' hg hb'
        obtain ⟨r', h1, v, h2, h3, h4⟩ := vres_ok (fn := fn) hg2 (by simp) hk
        cases h1
        refine ⟨v, h2, v, rfl, hf2.toBelow, M2, hg2.up, fun b o hM => ?_, h3, fun b h5 h6 => Nat.le_of_not_lt (h4 b h5 h6)⟩
        rcases Nat.lt_or_ge b w.heap.size with h5 | h5
        · exact .inl (hg2.down b o h5 hM)
        · exact .inr ⟨h5, hg2.lt b o hM⟩
      cases e with
      | normal => exact key hk
      | ret => exact key hk
      | exit i => cases hk
  | pan p =>
    obtain ⟨n, hv⟩ := h x (by rw [hx]; simp)
    rw [hx] at hv
    unfold vfnE bodyOf at hv
    rw [hb] at hv
    simp only [hx]
    refine callsIn_wide.1 (callsIn_of_wp_marks (n := 0) hfn hb trivial (cutE_ok (phi_ok hl) hm hints n (by simp) hI' (fun j v hj => by cases hj) path c r hr hR _ _ ?_ ?_ _ _ _ ⟨Fr.refl _ _, M, hst⟩ hv))
    · intro p' q hp hq st a w' hc
      cases hp
      obtain ⟨hb', M', hg⟩ := hc
      exact leave (M0 := base0 M w) (F := (· < w.heap.size)) (w0 := w) (st := st) (R := fun e w' => (∃ q, Like p q ∧ e = .panicked [{ v := q, recovered := false }]) ∧ Go.RowKit.Below w.heap.size w w') (mode := .panicking [{ v := q, recovered := false }]) (by simp)
        (fun M2 w2 hg2 hf2 => ⟨⟨q, hq, rfl⟩, hf2.toBelow⟩) hdm a.defers M' w' hg hb'
    · intro e st a w' hc hk
      obtain ⟨hb', M', hg⟩ := hc
      have key : vres P fn.results.toList multi own res st ≠ .pan p := by
        intro hk
        obtain ⟨r', h1, _⟩ := vres_ok (fn := fn) hg (by simp) hk
        cases h1
      cases e with
      | normal => exact absurd hk key
      | ret => exact absurd hk key
      | exit i => cases hk
end
end Go.V
