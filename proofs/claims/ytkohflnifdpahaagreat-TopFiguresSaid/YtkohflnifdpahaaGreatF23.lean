/- Proved here: topFigures_holds (the law TopFiguresSaid answers true at every input), with no condition. -/
import Derived.Test.YtkohflnifdpahaaGreatF18
import Derived.Test.YtkohflnifdpahaaGreatF22
import Derived.Test.YtkohflnifdpahaaGreatF19
import Derived.Test.YtkohflnifdpahaaGreatF10
set_option linter.all false
namespace Go.V
open Go.Proofs
theorem best_a (N : Nat) (xs : List Int) (fv : Value) {ys : List Int} (hys : cut xs (1 : Int) (lenI xs) = ys) (hl : ys.length < 1000000) : ∀ (n : Nat) (out : Int) (i : Nat), i ≤ ys.length → ys.length < n + i →
    ∃ r, L123a_0 N n (xs, (fv, ())) out (i : Int) = .ret r ∧ r ≤ out ∧ (∀ (j : Nat) (h : j < ys.length), i ≤ j → r ≤ ys[j]) ∧ (r = out ∨ r ∈ ys) := by
  intro n
  induction n with
  | zero => intro out i h1 h2; omega
  | succ n ih =>
    intro out i h1 h2
    rw [L123a_0_succ]
    dsimp only
    rw [hys]
    by_cases h : i < ys.length
    · have e1 : decide ((i : Int) < lenI ys) = true := by unfold lenI; simp only [decide_eq_true_eq]; omega
      have e2 : inb (i : Int) ys.length = true := by unfold inb; simp only [Bool.and_eq_true, decide_eq_true_eq]; omega
      have e3 : List.getD ys (i : Int).toNat (0 : Int) = ys[i] := by rw [Int.toNat_natCast, List.getD_eq_getElem?_getD, List.getElem?_eq_getElem h]; rfl
      have e4 : IntKind.i64.wrap ((i : Int) + 1) = ((i + 1 : Nat) : Int) := wrap_small (by omega)
      rw [e1, e2, e3, e4]
      simp only [cond_true]
      by_cases hlt : ys[i] < out
      · rw [decide_eq_true hlt]
        obtain ⟨r, a1, a2, a3, a4⟩ := ih ys[i] (i + 1) (by omega) (by omega)
        refine ⟨r, a1, by omega, fun j hj hij => ?_, .inr ?_⟩
        · by_cases e : j = i
          · subst e; exact a2
          · exact a3 j hj (by omega)
        · rcases a4 with rfl | a4
          · exact List.getElem_mem h
          · exact a4
      · rw [decide_eq_false hlt]
        obtain ⟨r, a1, a2, a3, a4⟩ := ih out (i + 1) (by omega) (by omega)
        refine ⟨r, a1, a2, fun j hj hij => ?_, a4⟩
        by_cases e : j = i
        · subst e; omega
        · exact a3 j hj (by omega)
    · have e1 : decide ((i : Int) < lenI ys) = false := by unfold lenI; simp only [decide_eq_false_iff_not]; omega
      rw [e1]
      exact ⟨out, rfl, by omega, fun j hj hij => by omega, .inl rfl⟩
theorem end_a {xs : List Int} {y : Int} (hy : y ∈ xs) (hall : ∀ x ∈ xs, y ≤ x) (hl : xs.length < 1000000) : f123a (xs, ((Value.func (.func 124) #[] #[]), ())) = .ret y := by
  have e0 : f123a (xs, ((Value.func (.func 124) #[] #[]), ())) = F123a fuel (xs, ((Value.func (.func 124) #[] #[]), ())) := by
    unfold f123a
    exact e123a fuel (xs, ((Value.func (.func 124) #[] #[]), ()))
  rw [e0]
  unfold F123a
  dsimp only
  obtain ⟨x0, xt, rfl⟩ : ∃ x0 xt, xs = x0 :: xt := by
    cases xs with
    | nil => cases hy
    | cons a b => exact ⟨a, b, rfl⟩
  have hcut : cut (x0 :: xt) (1 : Int) (lenI (x0 :: xt)) = xt := by
    unfold cut lenI
    rw [show (1 : Int).toNat = 1 from rfl, Int.toNat_natCast]
    show List.take _ xt = xt
    rw [List.take_of_length_le (by simp)]
  have hl : xt.length + 1 < 1000000 := by simpa using hl
  have e1 : inb (0 : Int) (x0 :: xt).length = true := by unfold inb; simp only [Bool.and_eq_true, decide_eq_true_eq, List.length_cons]; omega
  have e2 : cutOk (1 : Int) (lenI (x0 :: xt)) (lenI (x0 :: xt)) = true := by unfold cutOk lenI; simp only [Bool.and_eq_true, decide_eq_true_eq, List.length_cons]; omega
  rw [e1, e2]
  simp only [cond_true]
  have hf : 1000000 ≤ fuel := by unfold fuel; decide
  obtain ⟨r, a1, a2, a3, a4⟩ := best_a fuel (x0 :: xt) (Value.func (.func 124) #[] #[]) hcut (by omega) fuel x0 0 (by omega) (by omega)
  have e3 : List.getD (x0 :: xt) (0 : Int).toNat (0 : Int) = x0 := rfl
  rw [e3]
  refine a1.trans ?_
  have hr : r ∈ x0 :: xt := by
    rcases a4 with rfl | a4
    · exact List.mem_cons_self
    · exact List.mem_cons_of_mem _ a4
  have h1 := hall r hr
  have h2 : r ≤ y := by
    rcases List.mem_cons.1 hy with rfl | hy
    · exact a2
    · obtain ⟨j, hj, rfl⟩ := List.mem_iff_getElem.1 hy
      exact a3 j hj (by omega)
  rw [show r = y by omega]
theorem best_b (N : Nat) (xs : List Int) (fv : Value) {ys : List Int} (hys : cut xs (1 : Int) (lenI xs) = ys) (hl : ys.length < 1000000) : ∀ (n : Nat) (out : Int) (i : Nat), i ≤ ys.length → ys.length < n + i →
    ∃ r, L123b_0 N n (xs, (fv, ())) out (i : Int) = .ret r ∧ out ≤ r ∧ (∀ (j : Nat) (h : j < ys.length), i ≤ j → ys[j] ≤ r) ∧ (r = out ∨ r ∈ ys) := by
  intro n
  induction n with
  | zero => intro out i h1 h2; omega
  | succ n ih =>
    intro out i h1 h2
    rw [L123b_0_succ]
    dsimp only
    rw [hys]
    by_cases h : i < ys.length
    · have e1 : decide ((i : Int) < lenI ys) = true := by unfold lenI; simp only [decide_eq_true_eq]; omega
      have e2 : inb (i : Int) ys.length = true := by unfold inb; simp only [Bool.and_eq_true, decide_eq_true_eq]; omega
      have e3 : List.getD ys (i : Int).toNat (0 : Int) = ys[i] := by rw [Int.toNat_natCast, List.getD_eq_getElem?_getD, List.getElem?_eq_getElem h]; rfl
      have e4 : IntKind.i64.wrap ((i : Int) + 1) = ((i + 1 : Nat) : Int) := wrap_small (by omega)
      rw [e1, e2, e3, e4]
      simp only [cond_true]
      by_cases hlt : ys[i] > out
      · rw [decide_eq_true hlt]
        obtain ⟨r, a1, a2, a3, a4⟩ := ih ys[i] (i + 1) (by omega) (by omega)
        refine ⟨r, a1, by omega, fun j hj hij => ?_, .inr ?_⟩
        · by_cases e : j = i
          · subst e; exact a2
          · exact a3 j hj (by omega)
        · rcases a4 with rfl | a4
          · exact List.getElem_mem h
          · exact a4
      · rw [decide_eq_false hlt]
        obtain ⟨r, a1, a2, a3, a4⟩ := ih out (i + 1) (by omega) (by omega)
        refine ⟨r, a1, a2, fun j hj hij => ?_, a4⟩
        by_cases e : j = i
        · subst e; omega
        · exact a3 j hj (by omega)
    · have e1 : decide ((i : Int) < lenI ys) = false := by unfold lenI; simp only [decide_eq_false_iff_not]; omega
      rw [e1]
      exact ⟨out, rfl, by omega, fun j hj hij => by omega, .inl rfl⟩
theorem end_b {xs : List Int} {y : Int} (hy : y ∈ xs) (hall : ∀ x ∈ xs, x ≤ y) (hl : xs.length < 1000000) : f123a (xs, ((Value.func (.func 125) #[] #[]), ())) = .ret y := by
  have e0 : f123a (xs, ((Value.func (.func 125) #[] #[]), ())) = F123b fuel (xs, ((Value.func (.func 125) #[] #[]), ())) := by
    unfold f123a
    exact e123b fuel (xs, ((Value.func (.func 125) #[] #[]), ()))
  rw [e0]
  unfold F123b
  dsimp only
  obtain ⟨x0, xt, rfl⟩ : ∃ x0 xt, xs = x0 :: xt := by
    cases xs with
    | nil => cases hy
    | cons a b => exact ⟨a, b, rfl⟩
  have hcut : cut (x0 :: xt) (1 : Int) (lenI (x0 :: xt)) = xt := by
    unfold cut lenI
    rw [show (1 : Int).toNat = 1 from rfl, Int.toNat_natCast]
    show List.take _ xt = xt
    rw [List.take_of_length_le (by simp)]
  have hl : xt.length + 1 < 1000000 := by simpa using hl
  have e1 : inb (0 : Int) (x0 :: xt).length = true := by unfold inb; simp only [Bool.and_eq_true, decide_eq_true_eq, List.length_cons]; omega
  have e2 : cutOk (1 : Int) (lenI (x0 :: xt)) (lenI (x0 :: xt)) = true := by unfold cutOk lenI; simp only [Bool.and_eq_true, decide_eq_true_eq, List.length_cons]; omega
  rw [e1, e2]
  simp only [cond_true]
  have hf : 1000000 ≤ fuel := by unfold fuel; decide
  obtain ⟨r, a1, a2, a3, a4⟩ := best_b fuel (x0 :: xt) (Value.func (.func 125) #[] #[]) hcut (by omega) fuel x0 0 (by omega) (by omega)
  have e3 : List.getD (x0 :: xt) (0 : Int).toNat (0 : Int) = x0 := rfl
  rw [e3]
  refine a1.trans ?_
  have hr : r ∈ x0 :: xt := by
    rcases a4 with rfl | a4
    · exact List.mem_cons_self
    · exact List.mem_cons_of_mem _ a4
  have h1 := hall r hr
  have h2 : y ≤ r := by
    rcases List.mem_cons.1 hy with rfl | hy
    · exact a2
    · obtain ⟨j, hj, rfl⟩ := List.mem_iff_getElem.1 hy
      exact a3 j hj (by omega)
  rw [show r = y by omega]
theorem ends_is {xs : List Int} {lo hi : Int} (h1 : lo ∈ xs) (h2 : hi ∈ xs) (h : ∀ x ∈ xs, lo ≤ x ∧ x ≤ hi) (hl : xs.length < 1000000) : f94 (xs, ()) = .ret (lo, hi, ()) := by
  unfold f94 F94
  dsimp only
  rw [end_a h1 (fun x hx => (h x hx).1) hl]
  dsimp only
  rw [end_b h2 (fun x hx => (h x hx).2) hl]
def D0 : RSH := (10, 3, [4, 1, 0], [13, 26, 44], ())
def T0 : TAB := (D0, 1, ())
def Sup (g : GF) (a b : Int) : Prop := ∀ j, (j < a ∨ b < j) → g j = none
theorem run_none (gO : GF) (tab : TAB) {j : Int} : ∀ (ys : List Int) (g : GF), g j = none → (∀ n ∈ ys, gO (j - n) = none) → runG gO tab g ys j = none
  | [], g, h, _ => h
  | n :: ys, g, h, hn => by
    show runG gO tab (stepG gO n (figN tab n) g) ys j = none
    refine run_none gO tab ys _ ?_ fun m hm => hn m (List.mem_cons_of_mem _ hm)
    show (match gO (j - n) with | some p => some (merged g j (yOf (figN tab n) p)) | none => g j) = none
    rw [hn n List.mem_cons_self]
    exact h
theorem run_sup {gO : GF} {a b : Int} (h : Sup gO a b) (tab : TAB) {lo hi : Int} {ys : List Int} (hy : ∀ n ∈ ys, lo ≤ n ∧ n ≤ hi) : Sup (runG gO tab (fun _ => none) ys) (a + lo) (b + hi) := fun j hj => run_none gO tab ys _ rfl fun n hn => h _ (by have := hy n hn; omega)
theorem Sup.bd {g : GF} {a b : Int} (h : Sup g a b) (h1 : -1000000 ≤ a) (h2 : b ≤ 1000000) : Bd g := fun k p hk => by
  by_cases hj : k < a ∨ b < k
  · rw [h k hj] at hk; cases hk
  · omega
noncomputable def g1 : GF := runG g93 T0 (fun _ => none) [12, 13, 14]
noncomputable def g2 : GF := runG g1 T0 (fun _ => none) [25, 26, 27]
noncomputable def g3 : GF := runG g2 T0 (fun _ => none) [43, 44, 45]
theorem s0 : Sup g93 0 0 := fun j hj => by unfold g93 upd; rw [if_neg (by omega)]
theorem s1 : Sup g1 12 14 := run_sup (ys := [12, 13, 14]) (lo := 12) (hi := 14) s0 T0 (by decide)
theorem s2 : Sup g2 37 41 := run_sup (ys := [25, 26, 27]) (lo := 25) (hi := 27) s1 T0 (by decide)
theorem s3 : Sup g3 80 86 := run_sup (ys := [43, 44, 45]) (lo := 43) (hi := 45) s2 T0 (by decide)
theorem g3_80 : g3 80 = some (8, 8) := by kernel_rfl
theorem g3_81 : g3 81 = some (8, 8) := by kernel_rfl
theorem g3_82 : g3 82 = some (8, 9) := by kernel_rfl
theorem g3_83 : g3 83 = some (8, 9) := by kernel_rfl
theorem g3_84 : g3 84 = some (8, 9) := by kernel_rfl
theorem g3_85 : g3 85 = some (8, 9) := by kernel_rfl
theorem g3_86 : g3 86 = some (9, 9) := by kernel_rfl
theorem sums_step {tab : TAB} {m : Nat} {row row' : Int} {gO : GF} {nO : Nat} {sp : Int × Int × Unit} {ys : List Int} {c : Nat} (h1 : decide (row < lenR tab) = true) (h2 : f137 (tab, (row, ())) = .ret sp) (h3 : ((decide (-1000000000 < sp.1) && decide (sp.2.1 < 1000000000)) && (decide (sp.1 ≤ sp.2.1 + 1) && decide ((sp.2.1 + 1 - sp.1).toNat < fuel))) = true) (h4 : exactL sp.1 sp.2.1 (sp.2.1 + 1 - sp.1).toNat = ys) (h5 : ys.all (okN tab) = true) (h6 : Bd gO) (h7 : (sp.2.1 + 1 - sp.1).toNat = c) (h8 : c * nO < 1000000) (h9 : IntKind.i64.wrap (row + 1) = row') :
    sumsR tab (m + 1) row gO nO = sumsR tab m row' (runG gO tab (fun _ => none) ys) (c * nO) := by
  conv => lhs; unfold sumsR
  rw [h1, h2]
  dsimp only
  rw [h3, h4, h5, bdB_iff.2 h6, h7, h9, decide_eq_true h8]
  rfl
theorem sums_end {tab : TAB} {m : Nat} {row : Int} {gO : GF} {nO : Nat} (h1 : decide (row < lenR tab) = false) : sumsR tab (m + 1) row gO nO = .ret (gO, nO) := by
  conv => lhs; unfold sumsR
  rw [h1]
theorem fuel_lt {n : Nat} (h : n < 1000) : decide (n < fuel) = true := by
  unfold fuel
  simp only [decide_eq_true_eq]
  omega
theorem k137_0 : f137 (T0, (0, ())) = .ret (12, 14, ()) := by kernel_rfl
theorem k137_1 : f137 (T0, (1, ())) = .ret (25, 27, ()) := by kernel_rfl
theorem k137_2 : f137 (T0, (2, ())) = .ret (43, 45, ()) := by kernel_rfl
theorem kok_0 : ([12, 13, 14] : List Int).all (okN T0) = true := by kernel_rfl
theorem kok_1 : ([25, 26, 27] : List Int).all (okN T0) = true := by kernel_rfl
theorem kok_2 : ([43, 44, 45] : List Int).all (okN T0) = true := by kernel_rfl
theorem ksums : sumsR T0 fuel 0 g93 1 = .ret (g3, 27) := by
  obtain ⟨n, hn⟩ : ∃ n, fuel = n + 4 := ⟨fuel - 4, by
    have : 1000 ≤ fuel := by unfold fuel; decide
    omega⟩
  rw [hn]
  rw [sums_step (m := n + 3) (row' := 1) (ys := [12, 13, 14]) (c := 3) rfl k137_0 (by rw [fuel_lt (by decide)]; rfl) rfl kok_0 (s0.bd (by decide) (by decide)) rfl (by decide) (by decide)]
  rw [show runG g93 T0 (fun _ => none) [12, 13, 14] = g1 from rfl]
  rw [sums_step (m := n + 2) (row' := 2) (ys := [25, 26, 27]) (c := 3) rfl k137_1 (by rw [fuel_lt (by decide)]; rfl) rfl kok_1 (s1.bd (by decide) (by decide)) rfl (by decide) (by decide)]
  rw [show runG g1 T0 (fun _ => none) [25, 26, 27] = g2 from rfl]
  rw [sums_step (m := n + 1) (row' := 3) (ys := [43, 44, 45]) (c := 3) rfl k137_2 (by rw [fuel_lt (by decide)]; rfl) rfl kok_2 (s2.bd (by decide) (by decide)) rfl (by decide) (by decide)]
  exact sums_end rfl
theorem k92 : f92 (D0, (1, ())) = .ret (T0, 0, ()) := by kernel_rfl
noncomputable def oA (k : Int) : Int := match g3 k with | some p => IntKind.i64.wrap (p.1 - figN T0 k) | none => 0
noncomputable def oB (k : Int) : Int := match g3 k with | some p => IntKind.i64.wrap (p.2 - figN T0 k) | none => 0
theorem kA_80 : oA 80 = 0 := by kernel_rfl
theorem kB_80 : oB 80 = 0 := by kernel_rfl
theorem k62_80 : f62 (T0, (80, ((8, 8, ()), ()))) = .ret (0, 0, ()) := by kernel_rfl
theorem kA_81 : oA 81 = 0 := by kernel_rfl
theorem kB_81 : oB 81 = 0 := by kernel_rfl
theorem k62_81 : f62 (T0, (81, ((8, 8, ()), ()))) = .ret (0, 0, ()) := by kernel_rfl
theorem kA_82 : oA 82 = 0 := by kernel_rfl
theorem kB_82 : oB 82 = 1 := by kernel_rfl
theorem k62_82 : f62 (T0, (82, ((8, 9, ()), ()))) = .ret (0, 1, ()) := by kernel_rfl
theorem kA_83 : oA 83 = 0 := by kernel_rfl
theorem kB_83 : oB 83 = 1 := by kernel_rfl
theorem k62_83 : f62 (T0, (83, ((8, 9, ()), ()))) = .ret (0, 1, ()) := by kernel_rfl
theorem kA_84 : oA 84 = 0 := by kernel_rfl
theorem kB_84 : oB 84 = 1 := by kernel_rfl
theorem k62_84 : f62 (T0, (84, ((8, 9, ()), ()))) = .ret (0, 1, ()) := by kernel_rfl
theorem kA_85 : oA 85 = -1 := by kernel_rfl
theorem kB_85 : oB 85 = 0 := by kernel_rfl
theorem k62_85 : f62 (T0, (85, ((8, 9, ()), ()))) = .ret (-1, 0, ()) := by kernel_rfl
theorem kA_86 : oA 86 = 0 := by kernel_rfl
theorem kB_86 : oB 86 = 0 := by kernel_rfl
theorem k62_86 : f62 (T0, (86, ((9, 9, ()), ()))) = .ret (0, 0, ()) := by kernel_rfl
theorem g3_cases {k : Int} {p : Int × Int} (h : g3 k = some p) : (k = 80 ∧ p = (8, 8)) ∨ (k = 81 ∧ p = (8, 8)) ∨ (k = 82 ∧ p = (8, 9)) ∨ (k = 83 ∧ p = (8, 9)) ∨ (k = 84 ∧ p = (8, 9)) ∨ (k = 85 ∧ p = (8, 9)) ∨ (k = 86 ∧ p = (9, 9)) := by
  by_cases hj : k < 80 ∨ 86 < k
  · rw [s3 k hj] at h; cases h
  · have : k = 80 ∨ k = 81 ∨ k = 82 ∨ k = 83 ∨ k = 84 ∨ k = 85 ∨ k = 86 := by omega
    rcases this with rfl | rfl | rfl | rfl | rfl | rfl | rfl
    · rw [g3_80] at h; cases h; simp
    · rw [g3_81] at h; cases h; simp
    · rw [g3_82] at h; cases h; simp
    · rw [g3_83] at h; cases h; simp
    · rw [g3_84] at h; cases h; simp
    · rw [g3_85] at h; cases h; simp
    · rw [g3_86] at h; cases h; simp
theorem k61 : S61 (D0, 1, Value.func (.func 62) #[] #[], ()) R61 := by
  refine ⟨rfl, ⟨T0, oA, oB, g3, 27, k92, ksums, s3.bd (by decide) (by decide), by decide, fun k p hk => ?_, fun xs hg hl => ?_⟩, rfl⟩
  · rcases g3_cases hk with ⟨rfl, rfl⟩ | ⟨rfl, rfl⟩ | ⟨rfl, rfl⟩ | ⟨rfl, rfl⟩ | ⟨rfl, rfl⟩ | ⟨rfl, rfl⟩ | ⟨rfl, rfl⟩
    · rw [kA_80, kB_80]; exact k62_80
    · rw [kA_81, kB_81]; exact k62_81
    · rw [kA_82, kB_82]; exact k62_82
    · rw [kA_83, kB_83]; exact k62_83
    · rw [kA_84, kB_84]; exact k62_84
    · rw [kA_85, kB_85]; exact k62_85
    · rw [kA_86, kB_86]; exact k62_86
  · refine ends_is (lo := -1) (hi := 1) ?_ ?_ (fun x hx => ?_) (by omega)
    · have := (hg.all 85 _ g3_85 rfl).1
      rwa [kA_85] at this
    · have := (hg.all 82 _ g3_82 rfl).2
      rwa [kB_82] at this
    · obtain ⟨k, p, hk, e⟩ := hg.of x hx
      rcases g3_cases hk with ⟨rfl, rfl⟩ | ⟨rfl, rfl⟩ | ⟨rfl, rfl⟩ | ⟨rfl, rfl⟩ | ⟨rfl, rfl⟩ | ⟨rfl, rfl⟩ | ⟨rfl, rfl⟩
      · rw [kA_80, kB_80] at e; omega
      · rw [kA_81, kB_81] at e; omega
      · rw [kA_82, kB_82] at e; omega
      · rw [kA_83, kB_83] at e; omega
      · rw [kA_84, kB_84] at e; omega
      · rw [kA_85, kB_85] at e; omega
      · rw [kA_86, kB_86] at e; omega
theorem k61f : f61 (D0, 1, Value.func (.func 62) #[] #[], ()) = .ret R61 := by
  unfold f61
  rw [if_pos k61]
end Go.V
namespace Go.V
open Go.Proofs
theorem k29 : f29 (D0, (1, ())) = .ret ((-1, 1, ()), (0, ())) := by
  unfold f29 F29
  dsimp only
  rw [k61f]
  rfl
theorem f9_is (h27 : f27v (A0, ()) = .ret ([123, 45, 60, 7], 0, ())) (h29 : f29v (D0, (1, ())) = .ret ((-1, 1, ()), (0, ()))) (h31 : f31 ([123, 45, 60, 7], ([123, 45, 60, 7], ())) = .ret true) : f9 () = .ret true := by
  unfold A0 at h27
  unfold D0 at h29
  unfold f9 F9
  rw [h27]
  dsimp only
  rw [h29]
  dsimp only
  rw [show ((0 : Int) == 0) = true from rfl]
  dsimp only
  rw [h31]
  rfl
theorem k9 : f9 () = .ret true := f9_is (by rw [f27v_eq]; exact k27) (by rw [f29v_eq]; exact k29) k31
theorem k9v : f9v () = .ret true := by rw [f9v_eq]; exact k9
end Go.V
namespace Go.V
open Go.Proofs
abbrev ROWP : Type := Int × Int × Unit
abbrev PLAN : Type := List ROWP × Int × Int × Unit
def inR (x lo hi : Int) : Bool := decide (lo ≤ x) && decide (x ≤ hi)
theorem inR_iff {x lo hi : Int} : inR x lo hi = true ↔ lo ≤ x ∧ x ≤ hi := by unfold inR; simp
theorem in_any (x lo hi : Int) : ((match (decide (x ≥ lo)) with
  | true => .ret (decide (x ≤ hi))
  | false => .ret false) : Out Bool) = .ret (inR x lo hi) := by
  unfold inR
  have e : decide (x ≥ lo) = decide (lo ≤ x) := rfl
  rw [e]
  cases decide (lo ≤ x) <;> rfl
theorem f40_val (x lo hi : Int) : f40 (x, (lo, (hi, ()))) = .ret (inR x lo hi) := by unfold f40 F40; exact in_any x lo hi
theorem f73_val (x lo hi : Int) : f73 (x, (lo, (hi, ()))) = .ret (inR x lo hi) := by unfold f73 F73; exact in_any x lo hi
theorem f70_val (x lo hi : Int) : f70 (x, (lo, (hi, ()))) = .ret (inR x lo hi) := by unfold f70 F70; exact in_any x lo hi
theorem f71_val (x : Int) : f71 (x, ()) = .ret (inR x 1 4) := by unfold f71 F71; exact in_any x 1 4
def rowB (r : ROWP) : Bool := inR r.1 (-99999) 99999 && (inR r.2.1 r.1 99999 && decide (r.2.1 ≤ r.1 + 6))
theorem f41_val (r : ROWP) : f41 (r, ()) = .ret (rowB r) := by
  unfold f41 F41 rowB
  dsimp only
  rw [f40_val]
  cases h : inR r.1 (-99999) 99999 with
  | false => rfl
  | true =>
    have h := inR_iff.1 h
    dsimp only
    rw [wr (x := r.1 + 6) (by omega) (by omega), f40_val]
    dsimp only
    congr 1
    rw [Bool.eq_iff_iff]
    simp only [Bool.true_and, Bool.and_eq_true, inR_iff, decide_eq_true_eq]
    split <;> omega
theorem f76_val (r : ROWP) : f76 (r, ()) = .ret (rowB r) := by
  unfold f76 F76 rowB
  dsimp only
  rw [f73_val]
  cases h : inR r.1 (-99999) 99999 with
  | false => rfl
  | true =>
    have h := inR_iff.1 h
    dsimp only
    rw [f73_val]
    cases h2 : inR r.2.1 r.1 99999 with
    | false => rfl
    | true =>
      dsimp only
      rw [wr (x := r.1 + 6) (by omega) (by omega)]
      rfl
theorem getD_at {α : Type} {l : List α} {i : Nat} {d : α} (h : i < l.length) : List.getD l (i : Int).toNat d = l[i] := by
  rw [Int.toNat_natCast, List.getD_eq_getElem?_getD, List.getElem?_eq_getElem h]; rfl
theorem inb_at {i n : Nat} (h : i < n) : inb (i : Int) n = true := by unfold inb; simp only [Bool.and_eq_true, decide_eq_true_eq]; omega
theorem lt_len {α : Type} {l : List α} {i : Nat} : decide ((i : Int) < lenI l) = decide (i < l.length) := by unfold lenI; simp
theorem allLoop (L : Nat → Int → Out Bool) (len : Nat) (B : Nat → Bool) (hlen : len < 1000000) (hend : ∀ n, L (n + 1) (len : Int) = .ret true) (hstep : ∀ n (i : Nat), i < len → L (n + 1) (i : Int) = match B i with | true => L n (IntKind.i64.wrap ((i : Int) + 1)) | false => .ret false) : ∀ n (i : Nat), i ≤ len → len < n + i → L n (i : Int) = .ret ((List.range' i (len - i)).all B) := by
  intro n
  induction n with
  | zero => intro i h1 h2; omega
  | succ n ih =>
    intro i h1 h2
    by_cases h : i = len
    · subst h; rw [hend, Nat.sub_self]; rfl
    · rw [hstep n i (by omega), wrap_small (by omega)]
      have e : List.range' i (len - i) = i :: List.range' (i + 1) (len - (i + 1)) := by
        rw [show len - i = (len - (i + 1)) + 1 by omega, List.range'_succ]
      rw [e, List.all_cons]
      cases hb : B i with
      | false => rfl
      | true => rw [Bool.true_and]; exact ih (i + 1) (by omega) (by omega)
theorem mapLoop {α β : Type} (L : Nat → List α → Int → Out β) (len : Nat) (g : Nat → α) (fin : List α → Out β) (hlen : len < 1000000) (hend : ∀ n out, out.length = len → L (n + 1) out (len : Int) = fin out) (hstep : ∀ n out (i : Nat), i < len → out.length = i → L (n + 1) out (i : Int) = L n (out ++ [g i]) (IntKind.i64.wrap ((i : Int) + 1))) : ∀ n (out : List α) (i : Nat), i ≤ len → out.length = i → len < n + i → L n out (i : Int) = fin (out ++ (List.range' i (len - i)).map g) := by
  intro n
  induction n with
  | zero => intro out i h1 h2 h3; omega
  | succ n ih =>
    intro out i h1 h2 h3
    by_cases h : i = len
    · subst h; rw [hend n out h2, Nat.sub_self]; simp
    · rw [hstep n out i (by omega) h2, wrap_small (by omega)]
      rw [ih (out ++ [g i]) (i + 1) (by omega) (by simp [h2]) (by omega)]
      have e : List.range' i (len - i) = i :: List.range' (i + 1) (len - (i + 1)) := by
        rw [show len - i = (len - (i + 1)) + 1 by omega, List.range'_succ]
      rw [e]
      simp
theorem all_range {len : Nat} {B : Nat → Bool} : (List.range' 0 (len - 0)).all B = true ↔ ∀ j, j < len → B j = true := by
  simp [List.all_eq_true, List.mem_range']
theorem fits_at {α : Type} {xs : List α} {x : α} (h : xs.length < 999999) : fits xs [x] = true := by unfold fits; simp only [decide_eq_true_eq, List.length_cons, List.length_nil]; omega
theorem fuel_ge {n : Nat} (h : n < 1000000) : n < fuel + 0 := by
  have : 1000000 ≤ fuel := by unfold fuel; decide
  omega
def rowAt (p : PLAN) (i : Nat) : ROWP := p.1.getD i (0, 0, ())
def planB (p : PLAN) : Bool := inR (lenI p.1) 1 4 && (inR p.2.1 1 12 && (inR p.2.2.1 0 3 && (List.range' 0 (p.1.length - 0)).all fun i => rowB (rowAt p i)))
theorem l13 (N : Nat) (p : PLAN) (hl : p.1.length < 1000000) : L13_0 N fuel (p, ()) 0 = .ret ((List.range' 0 (p.1.length - 0)).all fun i => rowB (rowAt p i)) := by
  refine allLoop (fun n i => L13_0 N n (p, ()) i) p.1.length _ hl (fun n => ?_) (fun n i hi => ?_) fuel 0 (by omega) (fuel_ge hl)
  · rw [L13_0_succ]
    dsimp only
    rw [lt_len, decide_eq_false (by omega)]
  · rw [L13_0_succ]
    dsimp only
    rw [lt_len, decide_eq_true hi, inb_at hi]
    simp only [cond_true, Int.toNat_natCast]
    rw [f41_val]
    show (match (!rowB (rowAt p i)) with | true => _ | false => _) = _
    cases rowB (rowAt p i) <;> rfl
theorem f13_val (p : PLAN) (hl : p.1.length < 1000000) : f13 (p, ()) = .ret (planB p) := by
  unfold f13 F13 planB
  dsimp only
  rw [f40_val]
  cases inR (lenI p.1) 1 4 with
  | false => rfl
  | true =>
    simp only [Bool.not_true, Bool.true_and]
    rw [f40_val]
    cases inR p.2.1 1 12 with
    | false => rfl
    | true =>
      simp only [Bool.not_true, Bool.true_and]
      rw [f40_val]
      cases inR p.2.2.1 0 3 with
      | false => rfl
      | true =>
        simp only [Bool.not_true, Bool.true_and]
        exact l13 _ p hl
def truthB (p : PLAN) (ts : List Int) : Bool := (List.range' 0 (ts.length - 0)).all fun i => inR (ts.getD i 0) (rowAt p i).1 (rowAt p i).2.1
theorem f14_val (p : PLAN) (ts : List Int) (hl : ts.length < 1000000) : f14 (p, (ts, ())) = .ret ((lenI ts == lenI p.1) && truthB p ts) := by
  unfold f14 F14
  dsimp only
  rw [show (lenI ts != lenI p.1) = !(lenI ts == lenI p.1) from rfl]
  cases he : (lenI ts == lenI p.1) with
  | false => rfl
  | true =>
    have he : ts.length = p.1.length := by have := eq_of_beq he; unfold lenI at this; omega
    simp only [Bool.not_true, Bool.true_and]
    refine allLoop (fun n i => L14_0 fuel n (p, (ts, ())) i) ts.length _ hl (fun n => ?_) (fun n i hi => ?_) fuel 0 (by omega) (fuel_ge hl)
    · rw [L14_0_succ]
      dsimp only
      rw [lt_len, decide_eq_false (by omega)]
    · rw [L14_0_succ]
      dsimp only
      rw [lt_len, decide_eq_true hi, inb_at hi, inb_at (show i < p.1.length by omega)]
      simp only [cond_true, Int.toNat_natCast]
      rw [f40_val]
      show (match (!inR (ts.getD i 0) (rowAt p i).1 (rowAt p i).2.1) with | true => _ | false => _) = _
      cases inR (ts.getD i 0) (rowAt p i).1 (rowAt p i).2.1 <;> rfl
theorem f43_val (p : PLAN) (ts : List Int) (hl : ts.length < 1000000) : f43 (p, (ts, ())) = .ret ((lenI ts == lenI p.1) && truthB p ts) := by
  unfold f43 F43
  dsimp only
  rw [show (lenI ts != lenI p.1) = !(lenI ts == lenI p.1) from rfl]
  cases he : (lenI ts == lenI p.1) with
  | false => rfl
  | true =>
    have he : ts.length = p.1.length := by have := eq_of_beq he; unfold lenI at this; omega
    simp only [Bool.not_true, Bool.true_and]
    refine allLoop (fun n i => L43_0 fuel n (p, (ts, ())) i) ts.length _ hl (fun n => ?_) (fun n i hi => ?_) fuel 0 (by omega) (fuel_ge hl)
    · rw [L43_0_succ]
      dsimp only
      rw [lt_len, decide_eq_false (by omega)]
    · rw [L43_0_succ]
      dsimp only
      rw [lt_len, decide_eq_true hi, inb_at hi, inb_at (show i < p.1.length by omega)]
      simp only [cond_true, Int.toNat_natCast]
      rw [f73_val]
      show (match (!inR (ts.getD i 0) (rowAt p i).1 (rowAt p i).2.1) with | true => _ | false => _) = _
      cases inR (ts.getD i 0) (rowAt p i).1 (rowAt p i).2.1 <;> rfl
theorem f101_val (p : PLAN) (hl : p.1.length < 1000000) (h : ∀ i, i < p.1.length → rowB (rowAt p i) = true) : f101a (p.1, ((Value.func (.func 75) #[] #[]), ())) = .ret (-1) := by
  have e0 : f101a (p.1, ((Value.func (.func 75) #[] #[]), ())) = F101a fuel (p.1, ((Value.func (.func 75) #[] #[]), ())) := by
    unfold f101a
    exact e101a fuel (p.1, ((Value.func (.func 75) #[] #[]), ()))
  rw [e0]
  unfold F101a
  have key : ∀ n (i : Nat), i ≤ p.1.length → p.1.length < n + i → L101a_0 fuel n (p.1, ((Value.func (.func 75) #[] #[]), ())) (i : Int) = .ret (-1) := by
    intro n
    induction n with
    | zero => intro i h1 h2; omega
    | succ n ih =>
      intro i h1 h2
      rw [L101a_0_succ]
      dsimp only
      rw [lt_len]
      by_cases hi : i < p.1.length
      · rw [decide_eq_true hi, inb_at hi]
        simp only [cond_true, Int.toNat_natCast]
        have e : f75 ((List.getD p.1 i ((0 : Int), ((0 : Int), ()))), ()) = .ret false := by
          unfold f75 F75
          dsimp only
          rw [f76_val]
          show Out.ret (!rowB (rowAt p i)) = _
          rw [h i hi]
          rfl
        rw [e]
        dsimp only
        rw [wrap_small (by omega)]
        exact ih (i + 1) (by omega) (by omega)
      · rw [decide_eq_false hi]
  exact key fuel 0 (by omega) (fuel_ge hl)
theorem f74_val (p : PLAN) (hl : p.1.length < 1000000) (h : ∀ i, i < p.1.length → rowB (rowAt p i) = true) : f74a (p.1, ((Value.func (.func 75) #[] #[]), ())) = .ret false := by
  have e0 : f74a (p.1, ((Value.func (.func 75) #[] #[]), ())) = F74a fuel (p.1, ((Value.func (.func 75) #[] #[]), ())) := by
    unfold f74a
    exact e74a fuel (p.1, ((Value.func (.func 75) #[] #[]), ()))
  rw [e0]
  unfold F74a
  dsimp only
  rw [f101_val p hl h]
  rfl
theorem f42_val (p : PLAN) (h : planB p = true) : f42 (p, ()) = .ret true := by
  unfold planB at h
  simp only [Bool.and_eq_true, all_range] at h
  obtain ⟨h1, h2, h3, h4⟩ := h
  have hl : p.1.length < 1000000 := by have := inR_iff.1 h1; unfold lenI at this; omega
  unfold f42 F42
  dsimp only
  rw [f73_val, h1]
  dsimp only
  rw [f73_val, h2]
  dsimp only
  rw [f73_val, h3]
  dsimp only
  rw [f74_val p hl h4]
  rfl
end Go.V
namespace Go.V
open Go.Proofs
def stepW : List Int → List Int
  | a :: b :: r => IntKind.i64.wrap (a + b) :: stepW (b :: r)
  | l => l
def stepP : List Int → List Int
  | a :: b :: r => (a + b) :: stepP (b :: r)
  | l => l
def iterP : Nat → List Int → List Int
  | 0, s => s
  | k + 1, s => iterP k (stepP s)
def AllB (M : Int) (s : List Int) : Prop := ∀ x ∈ s, -M ≤ x ∧ x ≤ M
theorem stepP_len : ∀ s : List Int, (stepP s).length = s.length
  | a :: b :: r => by unfold stepP; simp [stepP_len (b :: r)]
  | [] => rfl
  | [a] => rfl
theorem stepP_bd {M : Int} (hM : 0 ≤ M) : ∀ s : List Int, AllB M s → AllB (2 * M) (stepP s)
  | a :: b :: r, h => by
    have ha := h a (by simp)
    have hb := h b (by simp)
    have ih := stepP_bd hM (b :: r) fun x hx => h x (List.mem_cons_of_mem _ hx)
    intro x hx
    unfold stepP at hx
    rcases List.mem_cons.1 hx with rfl | hx
    · omega
    · exact ih x hx
  | [], h => fun x hx => by cases hx
  | [a], h => fun x hx => by have := h x hx; omega
theorem stepW_eq {M : Int} (hM : M ≤ 4611686018427387903) : ∀ s : List Int, AllB M s → stepW s = stepP s
  | a :: b :: r, h => by
    have ha := h a (by simp)
    have hb := h b (by simp)
    unfold stepW stepP
    rw [wr (by omega) (by omega), stepW_eq hM (b :: r) fun x hx => h x (List.mem_cons_of_mem _ hx)]
  | [], h => rfl
  | [a], h => rfl
def LeL : List Int → List Int → Prop
  | [], [] => True
  | a :: s, b :: t => a ≤ b ∧ LeL s t
  | _, _ => False
theorem stepP_le : ∀ s t : List Int, LeL s t → LeL (stepP s) (stepP t)
  | [], [], _ => trivial
  | [a], [b], h => h
  | a :: a2 :: s, b :: b2 :: t, h => by
    obtain ⟨h1, h2, h3⟩ := h
    have ih := stepP_le (a2 :: s) (b2 :: t) ⟨h2, h3⟩
    unfold stepP
    exact ⟨by omega, ih⟩
  | [], _ :: _, h => h.elim
  | _ :: _, [], h => h.elim
  | [a], b :: b2 :: t, h => h.2.elim
  | a :: a2 :: s, [b], h => h.2.elim
theorem iterP_le : ∀ (k : Nat) (s t : List Int), LeL s t → LeL (iterP k s) (iterP k t)
  | 0, _, _, h => h
  | k + 1, s, t, h => iterP_le k _ _ (stepP_le s t h)
theorem iterP_len : ∀ (k : Nat) (s : List Int), (iterP k s).length = s.length
  | 0, _ => rfl
  | k + 1, s => (iterP_len k _).trans (stepP_len s)
theorem iterP_bd : ∀ (k : Nat) {M : Int} (hM : 0 ≤ M) (s : List Int), AllB M s → AllB (2 ^ k * M) (iterP k s)
  | 0, M, hM, s, h => by rw [Int.pow_zero, Int.one_mul]; exact h
  | k + 1, M, hM, s, h => by
    have := iterP_bd k (M := 2 * M) (by omega) (stepP s) (stepP_bd hM s h)
    rw [Int.pow_succ, Int.mul_assoc]
    exact this
theorem in_1 (N n m : Nat) (x : List Int × Int × Unit) (t a : Int) : L102_1 N n (m + 4) x t [a] [a] 0 = L102_0 N n x (stepW [a]) (IntKind.i64.wrap (t + 1)) := by kernel_rfl
theorem in_2 (N n m : Nat) (x : List Int × Int × Unit) (t a b : Int) : L102_1 N n (m + 4) x t [a, b] [a, b] 0 = L102_0 N n x (stepW [a, b]) (IntKind.i64.wrap (t + 1)) := by kernel_rfl
theorem in_3 (N n m : Nat) (x : List Int × Int × Unit) (t a b c : Int) : L102_1 N n (m + 4) x t [a, b, c] [a, b, c] 0 = L102_0 N n x (stepW [a, b, c]) (IntKind.i64.wrap (t + 1)) := by kernel_rfl
theorem in_4 (N n m : Nat) (x : List Int × Int × Unit) (t a b c d : Int) : L102_1 N n (m + 4) x t [a, b, c, d] [a, b, c, d] 0 = L102_0 N n x (stepW [a, b, c, d]) (IntKind.i64.wrap (t + 1)) := by kernel_rfl
theorem in_any4 (N n m : Nat) (x : List Int × Int × Unit) (t : Int) {s : List Int} (h1 : 1 ≤ s.length) (h4 : s.length ≤ 4) : L102_1 N n (m + 4) x t s s 0 = L102_0 N n x (stepW s) (IntKind.i64.wrap (t + 1)) := by
  match s, h1, h4 with
  | [a], _, _ => exact in_1 N n m x t a
  | [a, b], _, _ => exact in_2 N n m x t a b
  | [a, b, c], _, _ => exact in_3 N n m x t a b c
  | [a, b, c, d], _, _ => exact in_4 N n m x t a b c d
  | _ :: _ :: _ :: _ :: _ :: _, _, h => simp at h
theorem l102 {N m : Nat} (hN : N = m + 4) {x : List Int × Int × Unit} {k : Nat} (hx : x.2.1 = (k : Int)) (hk : k < 1000) : ∀ (j n i : Nat) (M : Int) (s : List Int), i + j = k → j < n → 0 ≤ M → 2 ^ j * M ≤ 4611686018427387903 → AllB M s → 1 ≤ s.length → s.length ≤ 4 → L102_0 N n x s (i : Int) = .ret (iterP j s) := by
  intro j
  induction j with
  | zero =>
    intro n i M s h1 h2 hM h3 h4 h5 h6
    obtain ⟨n, rfl⟩ : ∃ n', n = n' + 1 := ⟨n - 1, by omega⟩
    rw [L102_0_succ, hx, decide_eq_false (by omega)]
    rfl
  | succ j ih =>
    intro n i M s h1 h2 hM h3 h4 h5 h6
    obtain ⟨n, rfl⟩ : ∃ n', n = n' + 1 := ⟨n - 1, by omega⟩
    have e : (2 : Int) ^ (j + 1) * M = 2 ^ j * (2 * M) := by rw [Int.pow_succ, Int.mul_assoc]
    have hp : (1 : Int) ≤ 2 ^ j := by
      have : (0 : Int) < 2 ^ j := Int.pow_pos (by decide)
      omega
    have hM2 : 2 * M ≤ 2 ^ j * (2 * M) := by
      have := Int.mul_le_mul_of_nonneg_right hp (show 0 ≤ 2 * M by omega)
      omega
    rw [L102_0_succ, hx, decide_eq_true (by omega)]
    dsimp only
    subst hN
    rw [in_any4 _ _ _ _ _ h5 h6, wrap_small (by omega), stepW_eq (M := M) (by omega) s h4]
    exact ih n (i + 1) (2 * M) (stepP s) (by omega) (by omega) (by omega) (by omega) (stepP_bd hM s h4) (by rw [stepP_len]; exact h5) (by rw [stepP_len]; exact h6)
theorem pow11 : ∀ k : Nat, k < 12 → (2 : Int) ^ k ≤ 2048 := by decide
theorem f102_val {ts : List Int} {k : Nat} (hk : k ≤ 11) (h1 : 1 ≤ ts.length) (h4 : ts.length ≤ 4) (hb : AllB 99999 ts) : f102 (ts, ((k : Int), ())) = .ret (iterP k ts) := by
  unfold f102 F102
  have e : f114 (ts, ()) = .ret ts := by unfold f114; dsimp only; rw [decide_eq_true (by omega)]; rfl
  dsimp only
  rw [e]
  obtain ⟨m, hm⟩ : ∃ m, fuel = m + 4 := ⟨fuel - 4, by
    have : 1000000 ≤ fuel := by unfold fuel; decide
    omega⟩
  have hp : (2 : Int) ^ k ≤ 2048 := pow11 k (by omega)
  exact l102 hm (x := (ts, ((k : Int), ()))) (k := k) rfl (by omega) k fuel 0 99999 ts (by omega) (by
    have : 1000000 ≤ fuel := by unfold fuel; decide
    omega) (by decide) (by omega) hb h1 h4
def valK (k : Nat) (s : List Int) : Int := (iterP k s).getD 0 0
theorem LeL.head {s t : List Int} (h : LeL s t) : s.getD 0 0 ≤ t.getD 0 0 := by
  match s, t, h with
  | [], [], _ => exact Int.le_refl _
  | a :: _, b :: _, h => exact h.1
theorem valK_le (k : Nat) {s t : List Int} (h : LeL s t) : valK k s ≤ valK k t := (iterP_le k s t h).head
theorem valK_bd {k : Nat} (hk : k ≤ 11) {s : List Int} (h1 : 1 ≤ s.length) (h : AllB 99999 s) : -204797952 ≤ valK k s ∧ valK k s ≤ 204797952 := by
  have hb := iterP_bd k (by decide) s h
  have hp : (2 : Int) ^ k ≤ 2048 := pow11 k (by omega)
  unfold valK
  have hl := iterP_len k s
  match hi : iterP k s with
  | [] => rw [hi] at hl; simp at hl; omega
  | a :: r =>
    have := hb a (by rw [hi]; simp)
    show -204797952 ≤ a ∧ a ≤ 204797952
    omega
theorem f77_val {p : PLAN} {ts : List Int} {k : Nat} (hk : k ≤ 11) (h1 : 1 ≤ ts.length) (h4 : ts.length ≤ 4) (hb : AllB 99999 ts) : f77 ((p, (ts, ())), ((k : Int), ())) = .ret (iterP k ts) := by
  unfold f77 F77
  dsimp only
  rw [f102_val hk h1 h4 hb]
def lineL (m : Nat) (ts : List Int) : List Int := (List.range' 0 (m - 0)).map fun k => valK k ts
theorem lineL_len (m : Nat) (ts : List Int) : (lineL m ts).length = m := by unfold lineL; simp
theorem lineL_at (m : Nat) (ts : List Int) {k : Nat} (h : k < m) : (lineL m ts)[k]'(by rw [lineL_len]; exact h) = valK k ts := by unfold lineL; simp
theorem f44_val {p : PLAN} {ts : List Int} {m : Nat} (hm : p.2.1 = (m : Int)) (hm2 : m ≤ 12) (h1 : 1 ≤ ts.length) (h4 : ts.length ≤ 4) (hb : AllB 99999 ts) : f44 ((p, (ts, ())), ()) = .ret (lineL m ts) := by
  unfold f44 F44
  refine (mapLoop (fun n out i => L44_0 fuel n ((p, (ts, ())), ()) out i) m (fun k => valK k ts) (fun out => .ret out) (by omega) (fun n out ho => ?_) (fun n out i hi ho => ?_) fuel [] 0 (by omega) rfl (fuel_ge (by omega))).trans ?_
  · rw [L44_0_succ]
    dsimp only
    rw [hm, decide_eq_false (by omega)]
  · rw [L44_0_succ]
    dsimp only
    rw [hm, decide_eq_true (by omega)]
    dsimp only
    rw [f77_val (by omega) h1 h4 hb]
    dsimp only
    rw [show inb (0 : Int) (iterP i ts).length = true from inb_at (i := 0) (by rw [iterP_len]; omega), fits_at (by omega)]
    rfl
  · rfl
end Go.V
namespace Go.V
open Go.Proofs
theorem LeL_map {f g : Nat → Int} : ∀ l : List Nat, (∀ x ∈ l, f x ≤ g x) → LeL (l.map f) (l.map g)
  | [], _ => trivial
  | a :: l, h => ⟨h a (by simp), LeL_map l fun x hx => h x (List.mem_cons_of_mem _ hx)⟩
theorem list_map {α : Type} (d : α) (l : List α) : l = (List.range' 0 (l.length - 0)).map fun i => l.getD i d := by
  apply List.ext_getElem
  · simp
  · intro i h1 h2
    simp [List.getD_eq_getElem?_getD, List.getElem?_eq_getElem h1]
def lowsL (p : PLAN) : List Int := (List.range' 0 (p.1.length - 0)).map fun i => (rowAt p i).1
def highsL (p : PLAN) : List Int := (List.range' 0 (p.1.length - 0)).map fun i => (rowAt p i).2.1
theorem f103_low (p : PLAN) (hl : p.1.length < 1000) : f103 (p, ((0 : Int), ())) = .ret (lowsL p) := by
  unfold f103 F103
  refine (mapLoop (fun n out i => L103_0 fuel n (p, ((0 : Int), ())) out i) p.1.length (fun i => (rowAt p i).1) (fun out => .ret out) (by omega) (fun n out ho => ?_) (fun n out i hi ho => ?_) fuel [] 0 (by omega) rfl (fuel_ge (by omega))).trans ?_
  · rw [L103_0_succ]
    dsimp only
    rw [lt_len, decide_eq_false (by omega)]
  · rw [L103_0_succ]
    dsimp only
    rw [lt_len, decide_eq_true hi, inb_at hi]
    simp only [cond_true, Int.toNat_natCast]
    rw [show ((0 : Int) == 0) = true from rfl, fits_at (by omega)]
    rfl
  · rfl
theorem f103_high (p : PLAN) (hl : p.1.length < 1000) : f103 (p, ((1 : Int), ())) = .ret (highsL p) := by
  unfold f103 F103
  refine (mapLoop (fun n out i => L103_0 fuel n (p, ((1 : Int), ())) out i) p.1.length (fun i => (rowAt p i).2.1) (fun out => .ret out) (by omega) (fun n out ho => ?_) (fun n out i hi ho => ?_) fuel [] 0 (by omega) rfl (fuel_ge (by omega))).trans ?_
  · rw [L103_0_succ]
    dsimp only
    rw [lt_len, decide_eq_false (by omega)]
  · rw [L103_0_succ]
    dsimp only
    rw [lt_len, decide_eq_true hi, inb_at hi]
    simp only [cond_true, Int.toNat_natCast]
    rw [show ((1 : Int) == 0) = false from rfl, show ((1 : Int) == 1) = true from rfl]
    simp only [cond_true, cond_false]
    rw [fits_at (by omega)]
    rfl
  · rfl
structure GoodP (p : PLAN) (m d : Nat) : Prop where
  len1 : 1 ≤ p.1.length
  len4 : p.1.length ≤ 4
  lines : p.2.1 = (m : Int)
  m1 : 1 ≤ m
  m12 : m ≤ 12
  dec : p.2.2.1 = (d : Int)
  d3 : d ≤ 3
  rows : ∀ i, i < p.1.length → rowB (rowAt p i) = true
theorem planB_good {p : PLAN} (h : planB p = true) : ∃ m d, GoodP p m d := by
  unfold planB at h
  simp only [Bool.and_eq_true, all_range] at h
  obtain ⟨h1, h2, h3, h4⟩ := h
  have h1 := inR_iff.1 h1
  have h2 := inR_iff.1 h2
  have h3 := inR_iff.1 h3
  unfold lenI at h1
  exact ⟨p.2.1.toNat, p.2.2.1.toNat, by omega, by omega, by omega, by omega, by omega, by omega, by omega, h4⟩
theorem good_planB {p : PLAN} {m d : Nat} (h : GoodP p m d) : planB p = true := by
  unfold planB
  simp only [Bool.and_eq_true, all_range]
  have e1 := h.len1; have e2 := h.len4; have e3 := h.lines; have e4 := h.m1; have e5 := h.m12; have e6 := h.dec; have e7 := h.d3
  refine ⟨inR_iff.2 ?_, inR_iff.2 (by omega), inR_iff.2 (by omega), h.rows⟩
  unfold lenI
  omega
theorem rowB_facts {r : ROWP} (h : rowB r = true) : -99999 ≤ r.1 ∧ r.1 ≤ r.2.1 ∧ r.2.1 ≤ 99999 := by
  unfold rowB at h
  simp only [Bool.and_eq_true, inR_iff, decide_eq_true_eq] at h
  omega
theorem GoodP.lowB {p : PLAN} {m d : Nat} (h : GoodP p m d) : AllB 99999 (lowsL p) := fun x hx => by
  unfold lowsL at hx
  obtain ⟨i, hi, rfl⟩ := List.mem_map.1 hx
  have hi : i < p.1.length := by simp [List.mem_range'] at hi; omega
  have := rowB_facts (h.rows i hi)
  omega
theorem GoodP.highB {p : PLAN} {m d : Nat} (h : GoodP p m d) : AllB 99999 (highsL p) := fun x hx => by
  unfold highsL at hx
  obtain ⟨i, hi, rfl⟩ := List.mem_map.1 hx
  have hi : i < p.1.length := by simp [List.mem_range'] at hi; omega
  have := rowB_facts (h.rows i hi)
  omega
theorem lowsL_len (p : PLAN) : (lowsL p).length = p.1.length := by unfold lowsL; simp
theorem highsL_len (p : PLAN) : (highsL p).length = p.1.length := by unfold highsL; simp
def pairL (f : Int → Int) (m : Nat) (p : PLAN) : List ROWP := (List.range' 0 (m - 0)).map fun k => (f (valK k (lowsL p)), (f (valK k (highsL p)), ()))
theorem pairL_len (f : Int → Int) (m : Nat) (p : PLAN) : (pairL f m p).length = m := by unfold pairL; simp
theorem pairL_at (f : Int → Int) (m : Nat) (p : PLAN) {k : Nat} (h : k < m) : (pairL f m p)[k]'(by rw [pairL_len]; exact h) = (f (valK k (lowsL p)), (f (valK k (highsL p)), ())) := by unfold pairL; simp
theorem f78_val {p : PLAN} {m d : Nat} (h : GoodP p m d) : f78 (p, ()) = .ret (pairL id m p) := by
  have e2 := h.len4
  unfold f78 F78
  dsimp only
  rw [f103_low p (by omega)]
  dsimp only
  rw [f44_val h.lines h.m12 (by rw [lowsL_len]; exact h.len1) (by rw [lowsL_len]; exact h.len4) h.lowB]
  dsimp only
  rw [f103_high p (by omega)]
  dsimp only
  rw [f44_val h.lines h.m12 (by rw [highsL_len]; exact h.len1) (by rw [highsL_len]; exact h.len4) h.highB]
  dsimp only
  have hm := h.m12
  refine (mapLoop (fun n out i => L78_0 fuel n (lineL m (lowsL p)) (lineL m (lowsL p)) (lineL m (highsL p)) out i) m (fun k => (valK k (lowsL p), (valK k (highsL p), ()))) (fun out => .ret out) (by omega) (fun n out ho => ?_) (fun n out i hi ho => ?_) fuel [] 0 (by omega) rfl (fuel_ge (by omega))).trans ?_
  · rw [L78_0_succ, lt_len, lineL_len, decide_eq_false (by omega)]
  · rw [L78_0_succ, lt_len, lineL_len, decide_eq_true hi, lineL_len, inb_at hi, getD_at (by rw [lineL_len]; exact hi), getD_at (by rw [lineL_len]; exact hi), lineL_at m _ hi, lineL_at m _ hi, fits_at (by omega)]
    rfl
  · rfl
def unitOK (u : Int) : Prop := u = 1 ∨ u = 10 ∨ u = 100 ∨ u = 1000
theorem f104_0 (rows : List ROWP) (l : Int) : f104 ((rows, (l, ((0 : Int), ()))), ()) = .ret 1 := by kernel_rfl
theorem f104_1 (rows : List ROWP) (l : Int) : f104 ((rows, (l, ((1 : Int), ()))), ()) = .ret 10 := by kernel_rfl
theorem f104_2 (rows : List ROWP) (l : Int) : f104 ((rows, (l, ((2 : Int), ()))), ()) = .ret 100 := by kernel_rfl
theorem f104_3 (rows : List ROWP) (l : Int) : f104 ((rows, (l, ((3 : Int), ()))), ()) = .ret 1000 := by kernel_rfl
theorem f104_val {p : PLAN} {d : Nat} (hd : p.2.2.1 = (d : Int)) (h3 : d ≤ 3) : f104 (p, ()) = .ret ((10 : Int) ^ d) := by
  obtain ⟨rows, l, dd, u⟩ := p
  have hd : dd = (d : Int) := hd
  subst hd
  have : d = 0 ∨ d = 1 ∨ d = 2 ∨ d = 3 := by omega
  rcases this with rfl | rfl | rfl | rfl
  · exact f104_0 rows l
  · exact f104_1 rows l
  · exact f104_2 rows l
  · exact f104_3 rows l
theorem unit_pow {d : Nat} (h3 : d ≤ 3) : unitOK ((10 : Int) ^ d) := by
  have : d = 0 ∨ d = 1 ∨ d = 2 ∨ d = 3 := by omega
  rcases this with rfl | rfl | rfl | rfl
  · exact .inl rfl
  · exact .inr (.inl rfl)
  · exact .inr (.inr (.inl rfl))
  · exact .inr (.inr (.inr rfl))
def fg (u v : Int) : Int := (v + u / 2) / u
theorem tdiv_pos {a c : Int} (h : 0 ≤ a) : a.tdiv c = a / c := Int.tdiv_eq_ediv_of_nonneg h
theorem tdiv_neg {a c : Int} (h : a < 0) : a.tdiv c = -((-a) / c) := by
  have := Int.neg_tdiv (a := -a) (b := c)
  rw [Int.neg_neg] at this
  rw [this, tdiv_pos (by omega)]
theorem fg_le {u : Int} (hu : unitOK u) {a b : Int} (h : a ≤ b) : fg u a ≤ fg u b := by
  unfold fg
  rcases hu with rfl | rfl | rfl | rfl <;> omega
theorem f79_val {p : PLAN} {u v : Int} (hu : f104 (p, ()) = .ret u) (hok : unitOK u) (h1 : -204797952 ≤ v) (h2 : v ≤ 204797952) : f79 (p, (v, ())) = .ret (fg u v) := by
  unfold f79 F79
  dsimp only
  rw [hu]
  dsimp only
  unfold fg
  rcases hok with rfl | rfl | rfl | rfl
  · rw [show IntKind.i64.wrap ((1 : Int).tdiv 2) = 0 by decide, wr (x := v + 0) (by omega) (by omega)]
    by_cases h : v + 0 < 0
    · rw [decide_eq_true h]
      simp only [show ((1 : Int) != 0) = true from rfl, cond_true]
      rw [show IntKind.i64.wrap ((1 : Int) - 1) = 0 by decide, wr (x := 0 - (v + 0)) (by omega) (by omega), tdiv_pos (by omega), wr (x := (0 - (v + 0)) / 1) (by omega) (by omega), wr (by omega) (by omega)]
      congr 1
      omega
    · rw [decide_eq_false h]
      simp only [show ((1 : Int) != 0) = true from rfl, cond_true]
      rw [tdiv_pos (by omega), wr (by omega) (by omega)]
      congr 1
  · rw [show IntKind.i64.wrap ((10 : Int).tdiv 2) = 5 by decide, wr (x := v + 5) (by omega) (by omega)]
    by_cases h : v + 5 < 0
    · rw [decide_eq_true h]
      simp only [show ((10 : Int) != 0) = true from rfl, cond_true]
      rw [show IntKind.i64.wrap ((10 : Int) - 1) = 9 by decide, wr (x := 9 - (v + 5)) (by omega) (by omega), tdiv_pos (by omega), wr (x := (9 - (v + 5)) / 10) (by omega) (by omega), wr (by omega) (by omega)]
      congr 1
      omega
    · rw [decide_eq_false h]
      simp only [show ((10 : Int) != 0) = true from rfl, cond_true]
      rw [tdiv_pos (by omega), wr (by omega) (by omega)]
      congr 1
  · rw [show IntKind.i64.wrap ((100 : Int).tdiv 2) = 50 by decide, wr (x := v + 50) (by omega) (by omega)]
    by_cases h : v + 50 < 0
    · rw [decide_eq_true h]
      simp only [show ((100 : Int) != 0) = true from rfl, cond_true]
      rw [show IntKind.i64.wrap ((100 : Int) - 1) = 99 by decide, wr (x := 99 - (v + 50)) (by omega) (by omega), tdiv_pos (by omega), wr (x := (99 - (v + 50)) / 100) (by omega) (by omega), wr (by omega) (by omega)]
      congr 1
      omega
    · rw [decide_eq_false h]
      simp only [show ((100 : Int) != 0) = true from rfl, cond_true]
      rw [tdiv_pos (by omega), wr (by omega) (by omega)]
      congr 1
  · rw [show IntKind.i64.wrap ((1000 : Int).tdiv 2) = 500 by decide, wr (x := v + 500) (by omega) (by omega)]
    by_cases h : v + 500 < 0
    · rw [decide_eq_true h]
      simp only [show ((1000 : Int) != 0) = true from rfl, cond_true]
      rw [show IntKind.i64.wrap ((1000 : Int) - 1) = 999 by decide, wr (x := 999 - (v + 500)) (by omega) (by omega), tdiv_pos (by omega), wr (x := (999 - (v + 500)) / 1000) (by omega) (by omega), wr (by omega) (by omega)]
      congr 1
      omega
    · rw [decide_eq_false h]
      simp only [show ((1000 : Int) != 0) = true from rfl, cond_true]
      rw [tdiv_pos (by omega), wr (by omega) (by omega)]
      congr 1
theorem f45_val {p : PLAN} {m d : Nat} (h : GoodP p m d) : f45 (p, ()) = .ret (pairL (fg ((10 : Int) ^ d)) m p) := by
  unfold f45 F45
  dsimp only
  rw [f78_val h]
  dsimp only
  have hm := h.m12
  have key : ∀ k, k < m → ∀ s : List Int, 1 ≤ s.length → AllB 99999 s → f79 ((p.1, (p.2.1, (p.2.2.1, ()))), (valK k s, ())) = .ret (fg ((10 : Int) ^ d) (valK k s)) := fun k hk s h1 hb => f79_val (p := p) (f104_val h.dec h.d3) (unit_pow h.d3) (valK_bd (by omega) h1 hb).1 (valK_bd (by omega) h1 hb).2
  refine (mapLoop (fun n out i => L45_0 fuel n (pairL id m p) p.1 p.2.1 p.2.2.1 out (pairL id m p) i) m (fun k => (fg ((10 : Int) ^ d) (valK k (lowsL p)), (fg ((10 : Int) ^ d) (valK k (highsL p)), ()))) (fun out => .ret out) (by omega) (fun n out ho => ?_) (fun n out i hi ho => ?_) fuel [] 0 (by omega) rfl (fuel_ge (by omega))).trans ?_
  · rw [L45_0_succ, lt_len, pairL_len, decide_eq_false (by omega)]
  · rw [L45_0_succ, lt_len, pairL_len, decide_eq_true hi, inb_at hi, getD_at (by rw [pairL_len]; exact hi), pairL_at id m p hi]
    simp only [id, cond_true]
    rw [key i hi _ (by rw [lowsL_len]; exact h.len1) h.lowB]
    dsimp only
    rw [key i hi _ (by rw [highsL_len]; exact h.len1) h.highB]
    dsimp only
    rw [fits_at (by omega)]
    rfl
  · rfl
theorem f18_val {p : PLAN} {m d : Nat} (h : GoodP p m d) : f18 (p, ()) = .ret (pairL (fg ((10 : Int) ^ d)) m p, ((0 : Int), ())) := by
  unfold f18 F18
  dsimp only
  rw [f42_val p (good_planB h)]
  simp only [Bool.not_true]
  rw [f45_val h]
theorem f19_val {p : PLAN} {m d : Nat} (h : GoodP p m d) (he : lowsL p = highsL p) : ∃ l : List Int, l.length = m ∧ f19 (p, ()) = .ret (l, ((0 : Int), ())) := by
  have hm := h.m12
  refine ⟨(List.range' 0 (m - 0)).map fun k : Nat => (k : Int), by simp, ?_⟩
  unfold f19 F19
  dsimp only
  rw [f42_val p (good_planB h)]
  simp only [Bool.not_true]
  rw [f45_val h]
  dsimp only
  refine (mapLoop (fun n out i => L19_0 fuel n (pairL (fg ((10 : Int) ^ d)) m p) out (pairL (fg ((10 : Int) ^ d)) m p) i) m (fun k : Nat => (k : Int)) (fun out => .ret (out, ((0 : Int), ()))) (by omega) (fun n out ho => ?_) (fun n out i hi ho => ?_) fuel [] 0 (by omega) rfl (fuel_ge (by omega))).trans ?_
  · rw [L19_0_succ, lt_len, pairL_len, decide_eq_false (by omega)]
  · rw [L19_0_succ, lt_len, pairL_len, decide_eq_true hi, inb_at hi, getD_at (by rw [pairL_len]; exact hi), pairL_at _ m p hi, he]
    simp only [beq_self_eq_true, cond_true]
    rw [fits_at (by omega)]
    rfl
  · rfl
theorem f17_val {p : PLAN} {ts : List Int} {m d : Nat} (h : GoodP p m d) (ht : ((lenI ts == lenI p.1) && truthB p ts) = true) (h1 : 1 ≤ ts.length) (h4 : ts.length ≤ 4) (hb : AllB 99999 ts) : f17 (p, (ts, ())) = .ret (lineL m ts, ((0 : Int), ())) := by
  unfold f17 F17
  dsimp only
  rw [f42_val p (good_planB h)]
  simp only [Bool.not_true]
  rw [f43_val p ts (by omega), ht]
  simp only [Bool.not_true]
  rw [f44_val h.lines h.m12 h1 h4 hb]
theorem f97_2 {v : Int} (h1 : -1000000000 ≤ v) (h2 : v ≤ 1000000000) : f97 (((2 : Int), ()), (v, ())) = .ret (v / 2) := by
  unfold f97 F97
  dsimp only
  rw [show ((2 : Int) != 0) = true from rfl]
  simp only [cond_true]
  by_cases h : 0 ≤ v
  · rw [tdiv_pos h, wr (x := v / 2) (by omega) (by omega), wr (x := v / 2 * 2) (by omega) (by omega), decide_eq_false (by omega)]
  · rw [tdiv_neg (by omega), wr (x := -(-v / 2)) (by omega) (by omega), wr (x := -(-v / 2) * 2) (by omega) (by omega)]
    by_cases h3 : -(-v / 2) * 2 > v
    · rw [decide_eq_true h3]
      dsimp only
      rw [wr (by omega) (by omega)]
      congr 1
      omega
    · rw [decide_eq_false h3]
      dsimp only
      congr 1
      omega
theorem f97_20 {v : Int} (h1 : -1000000000 ≤ v) (h2 : v ≤ 1000000000) : f97 (((20 : Int), ()), (v, ())) = .ret (v / 20) := by
  unfold f97 F97
  dsimp only
  rw [show ((20 : Int) != 0) = true from rfl]
  simp only [cond_true]
  by_cases h : 0 ≤ v
  · rw [tdiv_pos h, wr (x := v / 20) (by omega) (by omega), wr (x := v / 20 * 20) (by omega) (by omega), decide_eq_false (by omega)]
  · rw [tdiv_neg (by omega), wr (x := -(-v / 20)) (by omega) (by omega), wr (x := -(-v / 20) * 20) (by omega) (by omega)]
    by_cases h3 : -(-v / 20) * 20 > v
    · rw [decide_eq_true h3]
      dsimp only
      rw [wr (by omega) (by omega)]
      congr 1
      omega
    · rw [decide_eq_false h3]
      dsimp only
      congr 1
      omega
theorem f97_200 {v : Int} (h1 : -1000000000 ≤ v) (h2 : v ≤ 1000000000) : f97 (((200 : Int), ()), (v, ())) = .ret (v / 200) := by
  unfold f97 F97
  dsimp only
  rw [show ((200 : Int) != 0) = true from rfl]
  simp only [cond_true]
  by_cases h : 0 ≤ v
  · rw [tdiv_pos h, wr (x := v / 200) (by omega) (by omega), wr (x := v / 200 * 200) (by omega) (by omega), decide_eq_false (by omega)]
  · rw [tdiv_neg (by omega), wr (x := -(-v / 200)) (by omega) (by omega), wr (x := -(-v / 200) * 200) (by omega) (by omega)]
    by_cases h3 : -(-v / 200) * 200 > v
    · rw [decide_eq_true h3]
      dsimp only
      rw [wr (by omega) (by omega)]
      congr 1
      omega
    · rw [decide_eq_false h3]
      dsimp only
      congr 1
      omega
theorem f97_2000 {v : Int} (h1 : -1000000000 ≤ v) (h2 : v ≤ 1000000000) : f97 (((2000 : Int), ()), (v, ())) = .ret (v / 2000) := by
  unfold f97 F97
  dsimp only
  rw [show ((2000 : Int) != 0) = true from rfl]
  simp only [cond_true]
  by_cases h : 0 ≤ v
  · rw [tdiv_pos h, wr (x := v / 2000) (by omega) (by omega), wr (x := v / 2000 * 2000) (by omega) (by omega), decide_eq_false (by omega)]
  · rw [tdiv_neg (by omega), wr (x := -(-v / 2000)) (by omega) (by omega), wr (x := -(-v / 2000) * 2000) (by omega) (by omega)]
    by_cases h3 : -(-v / 2000) * 2000 > v
    · rw [decide_eq_true h3]
      dsimp only
      rw [wr (by omega) (by omega)]
      congr 1
      omega
    · rw [decide_eq_false h3]
      dsimp only
      congr 1
      omega
theorem f99_val {u v : Int} (hu : unitOK u) (h1 : -204797952 ≤ v) (h2 : v ≤ 204797952) : f99 ((u, ()), (v, ())) = .ret (fg u v) := by
  unfold f99 F99 fg
  dsimp only
  rcases hu with rfl | rfl | rfl | rfl
  · rw [show IntKind.i64.wrap ((2 : Int) * 1) = 2 by decide, wr (x := 2 * v) (by omega) (by omega), wr (x := 2 * v + 1) (by omega) (by omega), f97_2 (by omega) (by omega)]
    dsimp only
    congr 1
    omega
  · rw [show IntKind.i64.wrap ((2 : Int) * 10) = 20 by decide, wr (x := 2 * v) (by omega) (by omega), wr (x := 2 * v + 10) (by omega) (by omega), f97_20 (by omega) (by omega)]
    dsimp only
    congr 1
    omega
  · rw [show IntKind.i64.wrap ((2 : Int) * 100) = 200 by decide, wr (x := 2 * v) (by omega) (by omega), wr (x := 2 * v + 100) (by omega) (by omega), f97_200 (by omega) (by omega)]
    dsimp only
    congr 1
    omega
  · rw [show IntKind.i64.wrap ((2 : Int) * 1000) = 2000 by decide, wr (x := 2 * v) (by omega) (by omega), wr (x := 2 * v + 1000) (by omega) (by omega), f97_2000 (by omega) (by omega)]
    dsimp only
    congr 1
    omega
theorem f39_val {u v : Int} (hu : unitOK u) (h1 : -204797952 ≤ v) (h2 : v ≤ 204797952) : f39 (v, (u, ((3 : Int), ()))) = .ret (fg u v, ((0 : Int), ())) := by
  unfold f39 F39
  dsimp only
  rw [f70_val, inR_iff.2 (by omega)]
  simp only [Bool.not_true]
  rw [f70_val, inR_iff.2 (show 1 ≤ u ∧ u ≤ 1048576 by rcases hu with rfl | rfl | rfl | rfl <;> omega)]
  simp only [Bool.not_true]
  rw [f71_val, show inR 3 1 4 = true by decide]
  simp only [Bool.not_true]
  rw [show ((3 : Int) == 0) = false from rfl, show ((3 : Int) == 1) = false from rfl, show ((3 : Int) == 2) = false from rfl, show ((3 : Int) == 3) = true from rfl]
  simp only [cond_true, cond_false]
  rw [f99_val hu h1 h2]
theorem fg_bd {u v : Int} (hu : unitOK u) (h1 : -204797952 ≤ v) (h2 : v ≤ 204797952) : -204797952 ≤ fg u v ∧ fg u v ≤ 204797952 := by
  unfold fg
  rcases hu with rfl | rfl | rfl | rfl <;> omega
theorem f12_val {u v : Int} (hu : unitOK u) (h1 : -204797952 ≤ v) (h2 : v ≤ 204797952) : f12 (v, (u, ((3 : Int), ()))) = .ret (fg u v, (true, ())) := by
  have hb := fg_bd hu h1 h2
  unfold f12 F12
  dsimp only
  rw [f39_val hu h1 h2]
  dsimp only
  rw [show ((0 : Int) == 0) = true from rfl]
  dsimp only
  rw [decide_eq_true (show fg u v ≥ -1099511627776 by omega)]
  dsimp only
  rw [decide_eq_true (show fg u v ≤ 1099511627776 by omega)]
end Go.V
namespace Go.V
open Go.Proofs
def ptsL (ts : List Int) : List ROWP := (List.range' 0 (ts.length - 0)).map fun i => (ts.getD i 0, (ts.getD i 0, ()))
theorem ptsL_len (ts : List Int) : (ptsL ts).length = ts.length := by unfold ptsL; simp
def ptsP (p : PLAN) (ts : List Int) : PLAN := (ptsL ts, (p.2.1, (p.2.2.1, ())))
theorem rowAt_pts (p : PLAN) (ts : List Int) {i : Nat} (h : i < ts.length) : rowAt (ptsP p ts) i = (ts[i], (ts[i], ())) := by
  unfold rowAt ptsP ptsL
  dsimp only
  rw [List.getD_eq_getElem?_getD]
  simp [h]
theorem lows_pts (p : PLAN) (ts : List Int) : lowsL (ptsP p ts) = ts := by
  apply List.ext_getElem
  · rw [lowsL_len]; exact ptsL_len ts
  · intro i h1 h2
    simp only [lowsL, List.getElem_map, List.getElem_range', Nat.zero_add, Nat.one_mul]
    rw [rowAt_pts p ts h2]
theorem highs_pts (p : PLAN) (ts : List Int) : highsL (ptsP p ts) = ts := by
  apply List.ext_getElem
  · rw [highsL_len]; exact ptsL_len ts
  · intro i h1 h2
    simp only [highsL, List.getElem_map, List.getElem_range', Nat.zero_add, Nat.one_mul]
    rw [rowAt_pts p ts h2]
theorem getD_in {ts : List Int} {i : Nat} (h : i < ts.length) : ts.getD i 0 = ts[i] := by rw [List.getD_eq_getElem?_getD, List.getElem?_eq_getElem h]; rfl
structure Truth (p : PLAN) (ts : List Int) : Prop where
  len : ts.length = p.1.length
  low : LeL (lowsL p) ts
  high : LeL ts (highsL p)
  bd : AllB 99999 ts
theorem truth_of {p : PLAN} {ts : List Int} {m d : Nat} (h : GoodP p m d) (ht : ((lenI ts == lenI p.1) && truthB p ts) = true) : Truth p ts := by
  simp only [Bool.and_eq_true, beq_iff_eq] at ht
  obtain ⟨h1, h2⟩ := ht
  have hl : ts.length = p.1.length := by unfold lenI at h1; omega
  have h2 : ∀ j, j < ts.length → inR (ts.getD j 0) (rowAt p j).1 (rowAt p j).2.1 = true := all_range.1 h2
  have e := list_map (0 : Int) ts
  have hj : ∀ x ∈ List.range' 0 (p.1.length - 0), (rowAt p x).1 ≤ ts.getD x 0 ∧ ts.getD x 0 ≤ (rowAt p x).2.1 := fun x hx => by
    have hx : x < p.1.length := by simp [List.mem_range'] at hx; omega
    exact inR_iff.1 (h2 x (by omega))
  refine ⟨hl, ?_, ?_, fun x hx => ?_⟩
  · rw [e, hl]; exact LeL_map _ fun x hx => (hj x hx).1
  · rw [e, hl]; exact LeL_map _ fun x hx => (hj x hx).2
  · obtain ⟨i, hi, rfl⟩ := List.mem_iff_getElem.1 hx
    have h3 := inR_iff.1 (h2 i hi)
    rw [getD_in hi] at h3
    have := rowB_facts (h.rows i (by omega))
    omega
theorem good_pts {p : PLAN} {ts : List Int} {m d : Nat} (h : GoodP p m d) (ht : Truth p ts) : GoodP (ptsP p ts) m d := by
  have e1 : (ptsP p ts).1.length = ts.length := ptsL_len ts
  have e2 := h.len1
  have e3 := h.len4
  have e4 := ht.len
  refine ⟨by omega, by omega, h.lines, h.m1, h.m12, h.dec, h.d3, fun i hi => ?_⟩
  rw [rowAt_pts p ts (by omega)]
  have hb := ht.bd ts[i] (List.getElem_mem _)
  unfold rowB
  simp only [Bool.and_eq_true, inR_iff, decide_eq_true_eq]
  omega
theorem l40 {p : PLAN} {ts : List Int} {line : Int} (hl : ts.length ≤ 4) : L4_0 fuel fuel (p, (ts, (line, ()))) p.1 p.2.1 p.2.2.1 [] p.2.1 p.2.2.1 0 = L4_0 fuel 1 (p, (ts, (line, ()))) p.1 p.2.1 p.2.2.1 (ptsL ts) p.2.1 p.2.2.1 (ts.length : Int) := by
  refine (mapLoop (fun n out i => L4_0 fuel n (p, (ts, (line, ()))) p.1 p.2.1 p.2.2.1 out p.2.1 p.2.2.1 i) ts.length (fun i => (ts.getD i 0, (ts.getD i 0, ()))) (fun out => L4_0 fuel 1 (p, (ts, (line, ()))) p.1 p.2.1 p.2.2.1 out p.2.1 p.2.2.1 (ts.length : Int)) (by omega) (fun n out ho => ?_) (fun n out i hi ho => ?_) fuel [] 0 (by omega) rfl (fuel_ge (by omega))).trans ?_
  · rw [L4_0_succ, L4_0_succ]
    dsimp only
    rw [lt_len, decide_eq_false (by omega)]
  · rw [L4_0_succ]
    dsimp only
    rw [lt_len, decide_eq_true hi, inb_at hi]
    simp only [cond_true, Int.toNat_natCast]
    rw [fits_at (by omega)]
    rfl
  · rfl
theorem l41_step {N n : Nat} {x : PLAN × List Int × Int × Unit} {p17 : List ROWP} {p18 p19 : Int} {r24 : List Int × Int × Unit} {r26 r28 : List ROWP × Int × Unit} {u k u' k' : Int} (h : k < p19) (hu : IntKind.i64.wrap (u * 10) = u') (hk : IntKind.i64.wrap (k + 1) = k') : L4_1 N (n + 1) x p17 p18 p19 r24 r26 r28 u k = L4_1 N n x p17 p18 p19 r24 r26 r28 u' k' := by
  rw [L4_1_succ, decide_eq_true h, hu, hk]
theorem l41 {N n : Nat} {x : PLAN × List Int × Int × Unit} {p17 : List ROWP} {p18 p19 : Int} {r24 : List Int × Int × Unit} {r26 r28 : List ROWP × Int × Unit} {d : Nat} (hd : p19 = (d : Int)) (h3 : d ≤ 3) : ∃ n', L4_1 N (n + 4) x p17 p18 p19 r24 r26 r28 1 0 = L4_1 N (n' + 1) x p17 p18 p19 r24 r26 r28 ((10 : Int) ^ d) (d : Int) := by
  subst hd
  have : d = 0 ∨ d = 1 ∨ d = 2 ∨ d = 3 := by omega
  rcases this with rfl | rfl | rfl | rfl
  · exact ⟨n + 3, rfl⟩
  · exact ⟨n + 2, l41_step (by decide) (by decide) (by decide)⟩
  · exact ⟨n + 1, (l41_step (u' := 10) (k' := 1) (by decide) (by decide) (by decide)).trans (l41_step (by decide) (by decide) (by decide))⟩
  · exact ⟨n, ((l41_step (u' := 10) (k' := 1) (by decide) (by decide) (by decide)).trans (l41_step (u' := 100) (k' := 2) (by decide) (by decide) (by decide))).trans (l41_step (by decide) (by decide) (by decide))⟩
theorem l41_end {N n : Nat} {p : PLAN} {ts : List Int} {k m d : Nat} (h : GoodP p m d) (ht : Truth p ts) (hk : k < m) : L4_1 N (n + 1) (p, (ts, ((k : Int), ()))) p.1 p.2.1 p.2.2.1 (lineL m ts, ((0 : Int), ())) (pairL (fg ((10 : Int) ^ d)) m (ptsP p ts), ((0 : Int), ())) (pairL (fg ((10 : Int) ^ d)) m p, ((0 : Int), ())) ((10 : Int) ^ d) (d : Int) = .ret true := by
  have e1 := h.m12
  have e2 := h.len1
  have e3 := ht.len
  have hu := unit_pow h.d3
  have hb := valK_bd (k := k) (by omega) (by omega) ht.bd
  rw [L4_1_succ, h.dec, decide_eq_false (by omega)]
  dsimp only
  rw [show inb (k : Int) (lineL m ts).length = true from inb_at (by rw [lineL_len]; exact hk), getD_at (by rw [lineL_len]; exact hk), lineL_at m ts hk]
  simp only [cond_true]
  rw [f12_val hu hb.1 hb.2]
  dsimp only
  rw [show inb (k : Int) (pairL (fg ((10 : Int) ^ d)) m (ptsP p ts)).length = true from inb_at (by rw [pairL_len]; exact hk), getD_at (by rw [pairL_len]; exact hk), pairL_at _ m _ hk, lows_pts, highs_pts]
  simp only [cond_true]
  rw [show (eqI (fg ((10 : Int) ^ d) (valK k ts)) (fg ((10 : Int) ^ d) (valK k ts)) && (eqI (fg ((10 : Int) ^ d) (valK k ts)) (fg ((10 : Int) ^ d) (valK k ts)) && true)) = true by simp [eqI]]
  dsimp only
  rw [show inb (k : Int) (pairL (fg ((10 : Int) ^ d)) m p).length = true from inb_at (by rw [pairL_len]; exact hk), getD_at (by rw [pairL_len]; exact hk), pairL_at _ m _ hk]
  simp only [cond_true]
  rw [decide_eq_true (show fg ((10 : Int) ^ d) (valK k ts) ≥ fg ((10 : Int) ^ d) (valK k (lowsL p)) from fg_le hu (valK_le k ht.low))]
  dsimp only
  rw [decide_eq_true (show fg ((10 : Int) ^ d) (valK k ts) ≤ fg ((10 : Int) ^ d) (valK k (highsL p)) from fg_le hu (valK_le k ht.high))]
  dsimp only
  rw [k9v]
theorem l40_end {p : PLAN} {ts : List Int} {k m d : Nat} (h : GoodP p m d) (htB : ((lenI ts == lenI p.1) && truthB p ts) = true) (ht : Truth p ts) (hk : k < m) : L4_0 fuel 1 (p, (ts, ((k : Int), ()))) p.1 p.2.1 p.2.2.1 (ptsL ts) p.2.1 p.2.2.1 (ts.length : Int) = .ret true := by
  have e1 := h.m12
  have e2 := h.len1
  have e4 := h.len4
  have e3 := ht.len
  have hb := valK_bd (k := k) (by omega) (by omega) ht.bd
  have hp := good_pts h ht
  obtain ⟨l, hl, h19⟩ := f19_val hp (by rw [lows_pts, highs_pts])
  have h17 : f17 ((p.1, (p.2.1, (p.2.2.1, ()))), (ts, ())) = .ret (lineL m ts, ((0 : Int), ())) := f17_val h htB (by omega) (by omega) ht.bd
  have h18 : f18 ((p.1, (p.2.1, (p.2.2.1, ()))), ()) = .ret (pairL (fg ((10 : Int) ^ d)) m p, ((0 : Int), ())) := f18_val h
  have h18b : f18 ((ptsL ts, (p.2.1, (p.2.2.1, ()))), ()) = .ret (pairL (fg ((10 : Int) ^ d)) m (ptsP p ts), ((0 : Int), ())) := f18_val hp
  have h19 : f19 ((ptsL ts, (p.2.1, (p.2.2.1, ()))), ()) = .ret (l, ((0 : Int), ())) := h19
  have en : ∀ (α : Type) (xs : List α), xs.length = m → (lenI xs != p.2.1) = false := fun α xs hx => by
    rw [h.lines]; unfold lenI; simp [hx]
  rw [L4_0_succ]
  dsimp only
  rw [lt_len, decide_eq_false (by omega)]
  dsimp only
  rw [h17]
  dsimp only
  rw [h18b]
  dsimp only
  rw [h18]
  dsimp only
  rw [h19]
  dsimp only
  rw [show ((0 : Int) != 0) = false from rfl]
  dsimp only
  rw [en _ _ (lineL_len m ts), en _ _ (pairL_len _ m (ptsP p ts)), en _ _ (pairL_len _ m p), en _ _ hl]
  dsimp only
  rw [show inb (k : Int) (lineL m ts).length = true from inb_at (by rw [lineL_len]; exact hk), getD_at (by rw [lineL_len]; exact hk), lineL_at m ts hk]
  simp only [cond_true]
  rw [decide_eq_false (show ¬ valK k ts < -1099511627776 by omega)]
  dsimp only
  rw [decide_eq_false (show ¬ valK k ts > 1099511627776 by omega)]
  dsimp only
  obtain ⟨n, hn⟩ : ∃ n, fuel = n + 4 := ⟨fuel - 4, by
    have : 1000000 ≤ fuel := by unfold fuel; decide
    omega⟩
  obtain ⟨n', e⟩ := l41 (N := fuel) (n := n) (x := (p, (ts, ((k : Int), ())))) (p17 := p.1) (p18 := p.2.1) (r24 := (lineL m ts, ((0 : Int), ()))) (r26 := (pairL (fg ((10 : Int) ^ d)) m (ptsP p ts), ((0 : Int), ()))) (r28 := (pairL (fg ((10 : Int) ^ d)) m p, ((0 : Int), ()))) h.dec h.d3
  rw [← hn] at e
  rw [e]
  exact l41_end h ht hk
theorem f4_true (x : PLAN × List Int × Int × Unit) : f4 x = .ret true := by
  obtain ⟨p, ts, line, u⟩ := x
  unfold f4 F4
  dsimp only
  by_cases h1 : lenI p.1 > 6
  · rw [decide_eq_true h1]; dsimp only; rw [k9v]
  rw [decide_eq_false h1]
  dsimp only
  by_cases h2 : lenI ts > 6
  · rw [decide_eq_true h2]; dsimp only; rw [k9v]
  rw [decide_eq_false h2]
  dsimp only
  unfold lenI at h1 h2
  rw [f13_val p (by omega)]
  cases hp : planB p with
  | false => simp only [Bool.not_false]; rw [k9v]
  | true =>
  simp only [Bool.not_true]
  obtain ⟨m, d, hg⟩ := planB_good hp
  rw [f14_val p ts (by omega)]
  cases ht : ((lenI ts == lenI p.1) && truthB p ts) with
  | false => simp only [Bool.not_false]; rw [k9v]
  | true =>
  simp only [Bool.not_true]
  have hT := truth_of hg ht
  have hm := hg.lines
  have hm1 := hg.m1
  have hm2 := hg.m12
  have h15 : f15 (p, (line, ())) = .ret (inR line 0 ((m : Int) - 1)) := by
    unfold f15 F15
    dsimp only
    rw [hm, wr (by omega) (by omega), f40_val]
  rw [h15]
  cases hL : inR line 0 ((m : Int) - 1) with
  | false => simp only [Bool.not_false]; rw [k9v]
  | true =>
  simp only [Bool.not_true]
  have hL := inR_iff.1 hL
  obtain ⟨k, rfl⟩ : ∃ k : Nat, line = (k : Int) := ⟨line.toNat, by omega⟩
  have hl4 := hg.len4
  have hlt := hT.len
  exact (l40 (line := (k : Int)) (by omega)).trans (l40_end hg ht hT (by omega))
end Go.V
namespace Go.V
open Go.Proofs Go.Proofs.YtkohflnifdpahaaGreat
open Go.ChangeShapes Go.WideShapes Go.ChangeAt Go.RowKit
set_option maxRecDepth 100000 in
theorem lifted4 (os : Os) (started : os.Started) (H : Type) (enc : TypeId × Value → H) :
    ReturnsInHanded {} Tryz.checked os 4 .any (Rows.topFiguresSpec.pre6 enc Tryz.prog Tryz.f4 Rows.topFiguresRow.domain false) (Rows.topFiguresSpec.post enc Tryz.prog Tryz.f4 false true false false) := by
  refine returnsInHanded_of_change (C := Tryz.checked) own0 started (by kernel_rfl) Tryz.func4
    (ChangeSpec.witness6 (enc := enc) (C := Tryz.checked) false ⟨#[], #[.agg #[.slice none 0 0, .int .i64 0, .int .i64 0], .slice none 0 0, .int .i64 0], []⟩ 8 (by kernel_rfl) (by kernel_rfl) (by kernel_rfl) (by kernel_rfl)) ?_
  intro W base args ds gs before hval0 hW hcnd _
  have hval : ∀ (j : Nat) t v, Tryz.f4.params.toList[j]? = some t → args.toList[j]? = some v → Value.okWide Tryz.prog W .any base t v := fun j t v h1 h2 => hval0 j t v (by simpa using h1) (by simpa using h2)
  have hW' := hW
  obtain ⟨p, q, hA0, hV, rfl, hfz, hnd⟩ := hW
  have hA : DataW.TrodAll enc Tryz.prog W 0 (fun _ => true) true Tryz.f4.params.toList args.toList ds p := hA0
  obtain ⟨rfl, rfl⟩ := trodVars_none hV
  simp only [List.append_nil] at hW'
  have hlt : ∀ y ∈ p, y.block < W.heap.size := fun y hy => by simpa using hW'.lt y hy
  have hfit : FitAll Tryz.prog (.prod (.prod (.list (.prod (.int .i64) (.prod (.int .i64) .unit))) (.prod (.int .i64) (.prod (.int .i64) .unit))) (.prod (.list (.int .i64)) (.prod (.int .i64) .unit))) Tryz.f4.params.toList := by
    rw [Tryz.params4]
    exact ⟨_, _, rfl, fitT, ⟨_, _, rfl, fitL, ⟨_, _, rfl, fitI, rfl⟩⟩⟩
  obtain ⟨x, hx⟩ := open_all _ _ args.toList ds p hfit hval hA
  have hA1 := hA
  rw [Tryz.params4] at hA1
  obtain ⟨v0, vs0, d0, ds0, p0, q0, e0, rfl, g0, h0, r0⟩ := trodAll_cons hA1
  obtain ⟨v1, vs1, d1, ds1, p1, q1, e1, rfl, g1, h1, r1⟩ := trodAll_cons r0
  obtain ⟨v2, vs2, d2, ds2, p2, q2, e2, rfl, g2, h2, r2⟩ := trodAll_cons r1
  obtain ⟨_, rfl, _⟩ := trodAll_nil r2
  refine (says c4 (x := x) (f4_true x) trivial hx (fun _ _ h => h.elim)).mono fun e W' ⟨he, hb⟩ => ?_
  subst he
  exact ⟨_, rfl, _, _, _, [], _, [], hW', trodAll_cons_mk (shut_bool Tryz.underlying4 _) trodAll_mk0,
    all_behind (by kernel_rfl) hb _ _ _ _ (by kernel_rfl) hA hlt, rfl, hb.frame _, fun h => by cases h⟩
theorem over4 : Rows.TopFiguresSaid :=
  OpenClaim.holds_of_wide 4 Tryz.f4 rfl rfl rfl rfl rfl rfl rfl ⟨rfl, rfl, rfl, rfl, rfl⟩ rfl rfl rfl rfl rfl (by kernel_rfl) Tryz.func4 (by kernel_rfl)
    (of_decide_eq_true (by kernel_rfl)) (by unfold Func.isWrapper; first | (rw [if_pos (by decide +kernel)]; kernel_rfl) | (rw [if_neg (by decide +kernel)]; exact ⟨rfl, rfl⟩))
    (fun os started H enc _ => lifted4 os started H enc)
end Go.V
namespace Go.Proofs.YtkohflnifdpahaaGreat
/-- TopFiguresSaid: for every input the law answers true; the input reads as it did. No condition. -/
theorem topFigures_holds : Rows.TopFiguresSaid := Go.V.over4
#print axioms topFigures_holds
end Go.Proofs.YtkohflnifdpahaaGreat
