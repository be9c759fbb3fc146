/- A part of the proof of a law of the step table. -/
import Derived.Test.YtpnilbemlgbokaaGreatDoorSY
import Derived.Test.YtpnilbemlgbokaaGreatDoorVV
import Derived.Laws.IdiomStrings
set_option linter.all false
namespace Go.V
open Go.Proofs
open Go.RowKit (Below)
noncomputable def regAt (id : Nat) (c : Code) : Array Oper := match findRegion id c with | some o => o | none => #[]
theorem infoAt {ops : Array Oper} {L : List (Option Tmp × Op × Option (Nat × Bool))} (h : ops.toList.map opInfo = L) {i : Nat} {x : Option Tmp × Op × Option (Nat × Bool)} (hx : L[i]? = some x) : ∃ o, ops[i]? = some o ∧ o.dst = x.1 ∧ o.op = x.2.1 ∧ o.guard = x.2.2 := by
  rw [← h, List.getElem?_map, Array.getElem?_toList] at hx
  cases h : ops[i]? with
  | none => rw [h] at hx; cases hx
  | some o => rw [h] at hx; cases hx; exact ⟨o, rfl, rfl, rfl, rfl⟩
noncomputable def r821 : Array Oper := regAt 8 (bodyOf Tryz.f21)
noncomputable def r921 : Array Oper := regAt 9 (bodyOf Tryz.f21)
noncomputable def r1021 : Array Oper := regAt 10 (bodyOf Tryz.f21)
theorem info821 : r821.toList.map opInfo = [(some 66, .move (.tmp 7), none), (some 67, .convert 9 92 (.tmp 66), none), (some 9, .assign (.tmp 67), none)] := by kernel_rfl
theorem info921 : r921.toList.map opInfo = [(some 68, .move (.tmp 9), none), (some 69, .move (.tmp 1), none), (some 70, .move (.tmp 2), none), (some 71, .binOp .add 3 (.const (.int .i64 48)) (.tmp 70) 3, none),
  (some 72, .convert 3 5 (.tmp 71), none), (some 73, .indexAddr 92 (.tmp 68) (.tmp 69), none), (none, .store 5 (.tmp 73) (.tmp 72), none)] := by kernel_rfl
theorem info1021 : (r1021.toList.map opInfo)[0]? = some (some 75, .move (.tmp 9), none) ∧ (r1021.toList.map opInfo)[1]? = some (some 76, .convert 92 9 (.tmp 75), none) := ⟨by kernel_rfl, by kernel_rfl⟩
noncomputable def tail21 : Code := match atWay [1, 1, 1, 1, 1, 1, 1, 1] (bodyOf Tryz.f21) with | some c => c | none => .skip
theorem way21 : atWay [1, 1, 1, 1, 1] (bodyOf Tryz.f21) = some (.seq (.region 8 r821 false) (.seq (.region 9 r921 false) (.seq (.region 10 r1021 false) tail21))) := by kernel_rfl
def dgB (dg : Int) : UInt8 := UInt8.ofNat (48 + dg).toNat
def st21 (st : St) (v : List UInt8) : St := (((((((((((st.map dropS).set 66 .und).set 67 .und).set 9 .und).set 68 .und).set 69 .und).set 70 .und).set 71 .und).set 72 .und).set 73 .und).set 75 .und).set 76 (.d .str v)
def in21 (s : List UInt8) (p dg : Int) : Bool := decide (0 ≤ p) && decide (p < (s.length : Int)) && decide (0 ≤ dg) && decide (dg ≤ 9)
def setB (s : List UInt8) (p dg : Int) : List UInt8 := List.set s p.toNat (dgB dg)
noncomputable def E21 (Φ : Nat → List Spec) (hints : List (Nat × List Nat)) (N : Nat) {ρ : Type} (k : X → St → Out ρ) (st : St) : Out ρ :=
  match get st 7 with
  | .d .str s => (match get st 1 with
    | .d (.int .i64) p => (match get st 2 with
      | .d (.int .i64) dg => (match isBox (get st 66) || isBox (get st 67) || isBox (get st 9) || isBox (get st 68) || isBox (get st 69) || isBox (get st 70) || isBox (get st 71) || isBox (get st 72) || isBox (get st 73) || isBox (get st 75) || isBox (get st 76) || !(st.length == 90) with
        | true => .fail
        | false => bif in21 s p dg then
            vlex Tryz.prog Φ (fun _ p => .pan p) r1021 (fun s => vexec Tryz.prog Φ hints N tail21 none k s) (r1021.toList.drop 2) (st21 st (setB s p dg))
          else .fail)
      | _ => .fail)
    | _ => .fail)
  | _ => .fail
section
variable {a : Act} {w : World} {o : Oper}
theorem ex_bytes (ho : o.op = .convert 9 92 (.tmp 66)) {s : ByteArray} (h1 : tm a 66 = .string s) : (execOp a.eval o).run Tryz.prog w = .ok (.value (.slice (some ⟨w.heap.size, 0, none⟩) s.size (grownCap w s.size 0 5)))
      (w.drew.alloc (.cells (bytesRow s (grownCap w s.size 0 5)) 5 ((bytesRow s (grownCap w s.size 0 5)).size, (bytesRow s (grownCap w s.size 0 5)).size + 1))) := by
  have e1 : a.eval (.tmp 66) = .string s := h1
  have := run_bytes_of_string (P := Tryz.prog) w 9 92 5 s (by kernel_rfl) (by kernel_rfl) (by kernel_rfl)
  simp [execOp, ho, e1, this]
theorem ex_add48 (ho : o.op = .binOp .add 3 (.const (.int .i64 48)) (.tmp 70) 3) {n : Int} (h1 : tm a 70 = .int .i64 n) (n0 : 0 ≤ n) (n9 : n ≤ 9) : (execOp a.eval o).run Tryz.prog w = .ok (.value (.int .i64 (48 + n))) w := by
  have e1 : a.eval (.tmp 70) = .int .i64 n := h1
  have e2 : a.eval (.const (.int .i64 48)) = .int .i64 48 := rfl
  have w1 : IntKind.i64.wrap (48 + n) = 48 + n := by
    unfold IntKind.wrap
    simp only [IntKind.bits, IntKind.signed]
    simp
    omega
  simp only [execOp, ho, e1, e2]
  simp [go_sem, w1]
theorem ex_toByte (ho : o.op = .convert 3 5 (.tmp 71)) {n : Int} (h1 : tm a 71 = .int .i64 n) (n0 : 0 ≤ n) (n9 : n ≤ 255) : (execOp a.eval o).run Tryz.prog w = .ok (.value (.int .u8 n)) w := by
  have e1 : a.eval (.tmp 71) = .int .i64 n := h1
  have w1 : IntKind.u8.wrap n = n := by
    unfold IntKind.wrap
    simp only [IntKind.bits, IntKind.signed]
    simp
    omega
  simp only [execOp, ho, e1]
  simp [go_sem, w1]
theorem ex_at92 (ho : o.op = .indexAddr 92 (.tmp 68) (.tmp 69)) {g n cap : Nat} {p : Int} (h1 : tm a 68 = .slice (some ⟨g, 0, none⟩) n cap) (h2 : tm a 69 = .int .i64 p) (p0 : 0 ≤ p) (p1 : p < n) : (execOp a.eval o).run Tryz.prog w = .ok (.value (.pointer (some ⟨g, p.toNat, none⟩))) w := by
  have e1 : a.eval (.tmp 68) = .slice (some ⟨g, 0, none⟩) n cap := h1
  have e2 : a.eval (.tmp 69) = .int .i64 p := h2
  have hu : Tryz.prog.underlying 92 = some (.slice 5) := by kernel_rfl
  have hE : tyOf Tryz.prog 9 5 = some (.int .u8) := by kernel_rfl
  simp [execOp, ho, e1, e2, Instr.indexAt, asIntOf, run_underlying hu, run_sizeOf hE, add_lit, p0, p1, Ty.size]
theorem ex_store5 (ho : o.op = .store 5 (.tmp 73) (.tmp 72)) {g p : Nat} {n : Int} (h1 : tm a 73 = .pointer (some ⟨g, p, none⟩)) (h2 : tm a 72 = .int .u8 n) {u : Value} (hc : w.cell? ⟨g, p, none⟩ = some u) (hf : w.frozen? ⟨g, p, none⟩ = false) :
    (execOp a.eval o).run Tryz.prog w = .ok .skip (w.setCell ⟨g, p, none⟩ (.int .u8 n)) := by
  have e1 : a.eval (.tmp 73) = .pointer (some ⟨g, p, none⟩) := h1
  have e2 : a.eval (.tmp 72) = .int .u8 n := h2
  simp only [execOp, ho, e1, e2]
  simp [go_sem, stored, hc, hf]
theorem ex_string (ho : o.op = .convert 92 9 (.tmp 75)) {g cap : Nat} {l : List UInt8} (h1 : tm a 75 = .slice (some ⟨g, 0, none⟩) l.length cap) (hc : ∀ j (hj : j < l.length), w.cell? (Addr.add ⟨g, 0, none⟩ j) = some (.int .u8 (l[j].toNat : Int))) :
    (execOp a.eval o).run Tryz.prog w = .ok (.value (.string ⟨l.toArray⟩)) w := by
  have e1 : a.eval (.tmp 75) = .slice (some ⟨g, 0, none⟩) l.length cap := h1
  have := run_convert_bytes_back (P := Tryz.prog) w 92 9 5 ⟨g, 0, none⟩ cap l (by kernel_rfl) (by kernel_rfl) (by kernel_rfl) hc
  simp [execOp, ho, e1, this]
end
theorem put_none {a : Act} {v : Value} : a.put none v = a := rfl
theorem e21_core {Φ : Nat → List Spec} (hΦ : ∀ g sp, sp ∈ Φ g → Contract Tryz.prog sp) (hints : List (Nat × List Nat)) (N : Nat) {ρ : Type} {fin : Out ρ} (hf : fin ≠ .fail) {F : Nat → Prop} {M0 : Base} {w0 : World} {n : Nat} (hI : ∀ w, Fr F w0 w → Inv.I Tryz.prog w) (hpl : ∀ j v, M0.pin j = some v → False)
    {k : X → St → Out ρ} {Q : Exit → Act → World → Prop} (hp : ∀ p q, fin = .pan p → Like p q → ∀ st a w, Conc F M0 w0 st a w → Q (.panic [{ v := q, recovered := false }]) a w)
    (hQ : ∀ x st a w, Conc F M0 w0 st a w → k x st = fin → Q x.exit' a w) {st : St} {a : Act} {w : World} (hc : Conc F M0 w0 st a w) {s : List UInt8} {p dg : Int} (h7 : get st 7 = .d .str s) (h1 : get st 1 = .d (.int .i64) p) (h2 : get st 2 = .d (.int .i64) dg)
    (hnb : (isBox (get st 66) || isBox (get st 67) || isBox (get st 9) || isBox (get st 68) || isBox (get st 69) || isBox (get st 70) || isBox (get st 71) || isBox (get st 72) || isBox (get st 73) || isBox (get st 75) || isBox (get st 76) || !(st.length == 90)) = false) (hcd : in21 s p dg = true)
    (h : vlex Tryz.prog Φ (fun _ p => .pan p) r1021 (fun s => vexec Tryz.prog Φ hints N tail21 none k s) (r1021.toList.drop 2) (st21 st (setB s p dg)) = fin) :
    (Code.seq (.region 8 r821 false) (.seq (.region 9 r921 false) (.seq (.region 10 r1021 false) tail21))).wpIn (fen none) n Tryz.prog Q a w := by
  unfold in21 at hcd
  simp only [Bool.and_eq_true, decide_eq_true_eq] at hcd
  obtain ⟨⟨⟨p0, p1⟩, g0⟩, g9⟩ := hcd
  unfold setB at h
  simp only [Bool.or_eq_false_iff] at hnb
  obtain ⟨⟨⟨⟨⟨⟨⟨⟨⟨⟨⟨n66, n67⟩, n9⟩, n68⟩, n69⟩, n70⟩, n71⟩, n72⟩, n73⟩, n75⟩, n76⟩, hlen⟩ := hnb
  have hlen : st.length = 90 := by simpa using hlen
  obtain ⟨hfr, M, hg⟩ := hc.drop
  have hm : ∀ i, get (st.map dropS) i = dropS (get st i) := fun i => get_map st i
  obtain ⟨_, M', hg0⟩ := hc
  have t7 : tm a 7 = .string ⟨⟨s⟩⟩ := by
    have s7 := hg0.slot 7
    rw [h7] at s7
    obtain ⟨cs, e, q⟩ := s7
    have q' : cs = [.string ⟨⟨s⟩⟩] := q
    subst q'
    exact e
  have t1 : tm a 1 = .int .i64 p := by
    have s7 := hg0.slot 1
    rw [h1] at s7
    obtain ⟨cs, e, q⟩ := s7
    have q' : cs = [.int .i64 p] := q
    subst q'
    exact e
  have t2 : tm a 2 = .int .i64 dg := by
    have s7 := hg0.slot 2
    rw [h2] at s7
    obtain ⟨cs, e, q⟩ := s7
    have q' : cs = [.int .i64 dg] := q
    subst q'
    exact e
  have hsz : a.tmps.size = 90 := hg0.size.trans hlen
  have hpn : p.toNat < s.length := by omega
  generalize hcap : grownCap w (⟨⟨s⟩⟩ : ByteArray).size 0 5 = cap
  generalize hrow : bytesRow ⟨⟨s⟩⟩ cap = row
  have hrs : s.length ≤ row.size := by
    rw [← hrow]
    unfold bytesRow
    simp
  have hrj : ∀ j (hj : j < s.length), row[j]? = some (.int .u8 (s[j].toNat : Int)) := fun j hj => by
    rw [← hrow]
    exact bytesRow_at ⟨⟨s⟩⟩ cap j hj
  generalize hW1 : w.drew.alloc (.cells row 5 (row.size, row.size + 1)) = W1
  have w1h : W1.heap[w.heap.size]? = some (.cells row 5 (row.size, row.size + 1)) := by
    rw [← hW1]
    exact heap_alloc_new w.drew _
  have w1o : ∀ b, b < w.heap.size → W1.heap[b]? = w.heap[b]? := fun b hb => by
    rw [← hW1]
    exact heap_alloc_old w.drew _ hb
  have w1c : ∀ j (hj : j < s.length), W1.cell? ⟨w.heap.size, j, none⟩ = some (.int .u8 (s[j].toNat : Int)) := fun j hj => by
    rw [← hW1]
    exact (World.cell?_alloc_mark w.drew _ _ _ j).trans (hrj j hj)
  have w1f : W1.frozen? ⟨w.heap.size, p.toNat, none⟩ = false := by
    rw [← hW1]
    refine (World.frozen?_alloc_mark w.drew row 5 row.size (row.size + 1) p.toNat).trans ?_
    rw [decide_eq_false (by omega)]
    rfl
  have gA : Good M0 F (fun b o => M b o ∨ (b = w.heap.size ∧ True)) (st.map dropS) a W1 := by
    rw [← hW1]
    exact hg.drew.alloc (.cells row 5 (row.size, row.size + 1)) (fun _ => True)
  generalize hW2 : W1.setCell ⟨w.heap.size, p.toNat, none⟩ (.int .u8 (48 + dg)) = W2
  have w2o : ∀ b, b ≠ w.heap.size → W2.heap[b]? = W1.heap[b]? := fun b hb => by
    rw [← hW2]
    exact Below.heap_setCell W1 _ _ b hb
  have w2s : W2.heap.size = W1.heap.size := by
    rw [← hW2]
    simp [World.setCell]
  have w1s : W1.heap.size = w.heap.size + 1 := by
    rw [← hW1]
    exact heap_size_alloc w.drew _
  have hold : ∀ i k b, owns (st.map dropS) a W1 i k b → b < w.heap.size := fun i k b ho => owns_lt hg.slot (owns_world (fun i b ho' => w1o b (owns_lt hg.slot ho')) ho)
  have gB : Good M0 F (fun b o => M b o ∨ (b = w.heap.size ∧ True)) (st.map dropS) a W2 := by
    refine gA.world (fun b o v e hn => ?_) (by omega) gA.up (fun b o hb => by have := gA.lt b o hb; omega) gA.down (KeepsD.but w1h (fun c e => by cases e) fun k _ hk => w2o k hk) fun i k b ho => ⟨w2o b (by have := hold i k b ho; omega), fun _ h => h⟩
    have hb : b ≠ w.heap.size := fun e => hn (.inr ⟨e, trivial⟩)
    exact ⟨(World.cell?_of_block (a := ⟨b, o, none⟩) (w2o b hb)).trans e, hn⟩
  have hfr2 : Fr F w0 W2 := by
    have f1 : Fr F w0 W1 := by
      rw [← hW1]
      exact hfr.drew.alloc (fun b hb => hg.room b hb) _
    refine f1.but (g := w.heap.size) (fun hF => absurd (hg.room _ hF) (Nat.lt_irrefl _)) ?_ ?_ ?_ (by omega) w2o
    all_goals (subst hW2; rfl)
  have w2c : ∀ j (hj : j < (List.set s p.toNat (dgB dg)).length), W2.cell? (Addr.add ⟨w.heap.size, 0, none⟩ j) = some (.int .u8 ((List.set s p.toNat (dgB dg))[j].toNat : Int)) := fun j hj => by
    have hj' : j < s.length := by simpa using hj
    rw [add_lit, Nat.zero_add, ← hW2]
    by_cases e : j = p.toNat
    · subst e
      rw [World.cell?_setCell_same W1 _ _ (w1c _ hj')]
      rw [List.getElem_set_self]
      have : (dgB dg).toNat = (48 + dg).toNat := by
        unfold dgB
        rw [UInt8.toNat_ofNat']
        omega
      rw [this]
      congr 2
      omega
    · rw [World.cell?_setCell_other W1 _ _ _ (fun e2 => e (by simpa using congrArg Addr.off e2.symm)), w1c j hj', List.getElem_set_ne (fun e2 => e e2.symm)]
  generalize hu : Value.slice (some ⟨w.heap.size, 0, none⟩) s.length cap = u
  have k66 := put_und gB (d := 66) (by rw [hm]; exact isBox_dropS n66) (.string ⟨⟨s⟩⟩)
  have k67 := put_und k66 (d := 67) (by rw [get_setne (by omega), hm]; exact isBox_dropS n67) u
  have k9 := put_und k67 (d := 9) (by rw [get_setne (by omega), get_setne (by omega), hm]; exact isBox_dropS n9) u
  have k68 := put_und k9 (d := 68) (by rw [get_setne (by omega), get_setne (by omega), get_setne (by omega), hm]; exact isBox_dropS n68) u
  have k69 := put_und k68 (d := 69) (by rw [get_setne (by omega), get_setne (by omega), get_setne (by omega), get_setne (by omega), hm]; exact isBox_dropS n69) (.int .i64 p)
  have k70 := put_und k69 (d := 70) (by rw [get_setne (by omega), get_setne (by omega), get_setne (by omega), get_setne (by omega), get_setne (by omega), hm]; exact isBox_dropS n70) (.int .i64 dg)
  have k71 := put_und k70 (d := 71) (by rw [get_setne (by omega), get_setne (by omega), get_setne (by omega), get_setne (by omega), get_setne (by omega), get_setne (by omega), hm]; exact isBox_dropS n71) (.int .i64 (48 + dg))
  have k72 := put_und k71 (d := 72) (by rw [get_setne (by omega), get_setne (by omega), get_setne (by omega), get_setne (by omega), get_setne (by omega), get_setne (by omega), get_setne (by omega), hm]; exact isBox_dropS n72) (.int .u8 (48 + dg))
  have k73 := put_und k72 (d := 73) (by rw [get_setne (by omega), get_setne (by omega), get_setne (by omega), get_setne (by omega), get_setne (by omega), get_setne (by omega), get_setne (by omega), get_setne (by omega), hm]; exact isBox_dropS n73) (.pointer (some ⟨w.heap.size, p.toNat, none⟩))
  have k75 := put_und k73 (d := 75) (by rw [get_setne (by omega), get_setne (by omega), get_setne (by omega), get_setne (by omega), get_setne (by omega), get_setne (by omega), get_setne (by omega), get_setne (by omega), get_setne (by omega), hm]; exact isBox_dropS n75) u
  have hb76 : isBox (get ((((((((((st.map dropS).set 66 .und).set 67 .und).set 9 .und).set 68 .und).set 69 .und).set 70 .und).set 71 .und).set 72 .und).set 73 .und |>.set 75 .und) 76) = false := by
    rw [get_setne (by omega), get_setne (by omega), get_setne (by omega), get_setne (by omega), get_setne (by omega), get_setne (by omega), get_setne (by omega), get_setne (by omega), get_setne (by omega), get_setne (by omega), hm]; exact isBox_dropS n76
  have k76 := k75.put_plain (d := 76) (s := .d .str (List.set s p.toNat (dgB dg))) (v := .string ⟨⟨List.set s p.toNat (dgB dg)⟩⟩) (by simp [hlen]) (fun cs e => by rw [e] at hb76; cases hb76) rfl ⟨[.string ⟨⟨List.set s p.toNat (dgB dg)⟩⟩], rfl, rfl⟩
  obtain ⟨A9, hA9⟩ : ∃ A9, A9 = (((((((((a.put (some 66) (.string ⟨⟨s⟩⟩)).put (some 67) u).put (some 9) u).put (some 68) u).put (some 69) (.int .i64 p)).put (some 70) (.int .i64 dg)).put (some 71) (.int .i64 (48 + dg))).put (some 72) (.int .u8 (48 + dg))).put (some 73) (.pointer (some ⟨w.heap.size, p.toNat, none⟩))) := ⟨_, rfl⟩
  rw [← hA9] at k76
  have t9 : tm A9 9 = u := by
    rw [hA9, tm_put_other (by omega), tm_put_other (by omega), tm_put_other (by omega), tm_put_other (by omega), tm_put_other (by omega), tm_put_other (by omega), tm_put_same (by simp only [size_put]; omega)]
  have s9 : A9.tmps.size = 90 := by
    rw [hA9]
    simp only [size_put]
    exact hsz
  have rs8 : r821.size = 3 := by have := congrArg List.length info821; simpa using this
  have rs9 : r921.size = 7 := by have := congrArg List.length info921; simpa using this
  obtain ⟨o0, i0, d0, q0, z0⟩ := infoAt info821 (i := 0) rfl
  obtain ⟨o1, i1, d1, q1, z1⟩ := infoAt info821 (i := 1) rfl
  obtain ⟨o2, i2, d2, q2, z2⟩ := infoAt info821 (i := 2) rfl
  refine wpIn_seq (wpIn_region ?_)
  rw [rs8]
  show wpOpsIn (fen none) n Tryz.prog r821 _ [0, 1, 2] a w
  rw [wpOpsIn_cons]
  refine opn_value i0 (wanted_none z0) (fun c h => by rw [q0] at h; cases h) (ex_move q0) ?_
  rw [d0, t7, wpOpsIn_cons]
  refine opn_value i1 (wanted_none z1) (fun c h => by rw [q1] at h; cases h) (ex_bytes q1 (tm_put_same (by omega))) ?_
  rw [d1, hcap, hrow, hW1, wpOpsIn_cons]
  refine opn_value i2 (wanted_none z2) (fun c h => by rw [q2] at h; cases h) (ex_assign q2) ?_
  rw [d2, tm_put_same (by simp only [size_put]; omega)]
  have hss : (⟨⟨s⟩⟩ : ByteArray).size = s.length := rfl
  rw [hss, hu]
  obtain ⟨o0, i0, d0, q0, z0⟩ := infoAt info921 (i := 0) rfl
  obtain ⟨o1, i1, d1, q1, z1⟩ := infoAt info921 (i := 1) rfl
  obtain ⟨o2, i2, d2, q2, z2⟩ := infoAt info921 (i := 2) rfl
  obtain ⟨o3, i3, d3, q3, z3⟩ := infoAt info921 (i := 3) rfl
  obtain ⟨o4, i4, d4, q4, z4⟩ := infoAt info921 (i := 4) rfl
  obtain ⟨o5, i5, d5, q5, z5⟩ := infoAt info921 (i := 5) rfl
  obtain ⟨o6, i6, d6, q6, z6⟩ := infoAt info921 (i := 6) rfl
  refine wpIn_seq (wpIn_region ?_)
  rw [rs9]
  show wpOpsIn (fen none) n Tryz.prog r921 _ [0, 1, 2, 3, 4, 5, 6] _ W1
  rw [wpOpsIn_cons]
  refine opn_value i0 (wanted_none z0) (fun c h => by rw [q0] at h; cases h) (ex_move q0) ?_
  rw [d0, tm_put_same (by simp only [size_put]; omega), wpOpsIn_cons]
  refine opn_value i1 (wanted_none z1) (fun c h => by rw [q1] at h; cases h) (ex_move q1) ?_
  rw [d1, tm_put_other (by omega), tm_put_other (by omega), tm_put_other (by omega), tm_put_other (by omega), t1, wpOpsIn_cons]
  refine opn_value i2 (wanted_none z2) (fun c h => by rw [q2] at h; cases h) (ex_move q2) ?_
  rw [d2, tm_put_other (by omega), tm_put_other (by omega), tm_put_other (by omega), tm_put_other (by omega), tm_put_other (by omega), t2, wpOpsIn_cons]
  refine opn_value i3 (wanted_none z3) (fun c h => by rw [q3] at h; cases h) (ex_add48 q3 (tm_put_same (by simp only [size_put]; omega)) g0 g9) ?_
  rw [d3, wpOpsIn_cons]
  refine opn_value i4 (wanted_none z4) (fun c h => by rw [q4] at h; cases h) (ex_toByte q4 (tm_put_same (by simp only [size_put]; omega)) (by omega) (by omega)) ?_
  rw [d4, wpOpsIn_cons]
  refine opn_value i5 (wanted_none z5) (fun c h => by rw [q5] at h; cases h) (ex_at92 q5 (g := w.heap.size) (n := s.length) (cap := cap) (p := p) (by
    rw [tm_put_other (by omega), tm_put_other (by omega), tm_put_other (by omega), tm_put_other (by omega), tm_put_same (by simp only [size_put]; omega), hu]) (by
    rw [tm_put_other (by omega), tm_put_other (by omega), tm_put_other (by omega), tm_put_same (by simp only [size_put]; omega)]) p0 p1) ?_
  rw [d5, wpOpsIn_cons]
  refine opn_skipped i6 (wanted_none z6) (fun c h => by rw [q6] at h; cases h) (ex_store5 q6 (g := w.heap.size) (p := p.toNat) (n := 48 + dg) (tm_put_same (by simp only [size_put]; omega)) (by rw [tm_put_other (by omega), tm_put_same (by simp only [size_put]; omega)]) (w1c _ hpn) w1f) ?_
  rw [d6, put_none, hW2, ← hA9]
  have rs10 : 2 ≤ r1021.size := by
    have := info1021.2
    rw [List.getElem?_map, Array.getElem?_toList] at this
    rcases Nat.lt_or_ge 1 r1021.size with h | h
    · omega
    · rw [Array.getElem?_eq_none h] at this; cases this
  obtain ⟨o0, i0, d0, q0, z0⟩ := infoAt (L := r1021.toList.map opInfo) rfl info1021.1
  obtain ⟨o1, i1, d1, q1, z1⟩ := infoAt (L := r1021.toList.map opInfo) rfl info1021.2
  refine wpIn_seq (wpIn_region ?_)
  have hrange : List.range r1021.size = 0 :: 1 :: List.range' 2 (r1021.toList.drop 2).length := by
    obtain ⟨m, hm⟩ : ∃ m, r1021.size = m + 1 + 1 := ⟨r1021.size - 2, by omega⟩
    rw [List.length_drop, Array.length_toList, hm, List.range_eq_range', List.range'_succ, List.range'_succ]
    rfl
  rw [hrange, wpOpsIn_cons]
  refine opn_value i0 (wanted_none z0) (fun c h => by rw [q0] at h; cases h) (ex_move q0) ?_
  rw [d0]
  rw [t9, wpOpsIn_cons]
  refine opn_value i1 (wanted_none z1) (fun c h => by rw [q1] at h; cases h) (ex_string q1 (g := w.heap.size) (cap := cap) (l := List.set s p.toNat (dgB dg)) (by
    rw [List.length_set, hu]
    exact tm_put_same (by omega)) w2c) ?_
  rw [d1]
  have hcF := (⟨hfr2, _, k76⟩ : Conc F M0 w0 _ _ W2)
  unfold st21 at h
  have hl : ∀ j, (r1021.toList.drop 2)[j]? = r1021[2 + j]? := fun j => by rw [List.getElem?_drop, Array.getElem?_toList]
  generalize hl2 : r1021.toList.drop 2 = l2 at h hl ⊢
  show wpOpsIn (fen none) n Tryz.prog r1021 (Exit.then (Code.wpIn (fen none) n Tryz.prog tail21 Q) Q) (List.range' 2 l2.length) ((A9.put (some 75) u).put (some 76) (.string ⟨⟨List.set s p.toNat (dgB dg)⟩⟩)) W2
  refine vlex_seq (ro := none) (n := n) (Q := Exit.then (Code.wpIn (fen none) n Tryz.prog tail21 Q) Q) (kp := fun _ p => .pan p) (k := fun s => vexec Tryz.prog Φ hints N tail21 none k s) hΦ hI hf (fun g p q hk hq st a w hc => hp p q hk.symm hq st a w hc) (fun st a w hc h => ?_) l2 2 _ _ _ hl hcF h
  exact code_ok hΦ mixed hints N hf tail21 F M0 w0 none none n (fun _ => rfl) hI (fun j v hj => (hpl j v hj).elim) k Q (fun _ => hp) hQ st a w hc h
theorem e21_ok {Φ : Nat → List Spec} (hΦ : ∀ g sp, sp ∈ Φ g → Contract Tryz.prog sp) (hints : List (Nat × List Nat)) (N : Nat) : EOK Tryz.prog (.seq (.region 8 r821 false) (.seq (.region 9 r921 false) (.seq (.region 10 r1021 false) tail21))) (fun {ρ} k st => E21 Φ hints N k st) := by
  intro ρ fin hf F M0 w0 n hI hpl k Q hp hQ st a w hc h
  dsimp only at h
  unfold E21 at h
  split at h
  rotate_left
  · exact absurd h.symm hf
  rename_i s h7
  split at h
  rotate_left
  · exact absurd h.symm hf
  rename_i p h1
  split at h
  rotate_left
  · exact absurd h.symm hf
  rename_i dg h2
  split at h
  · exact absurd h.symm hf
  rename_i hnb
  cases hcd : in21 s p dg with
  | false => rw [hcd] at h; exact absurd h.symm hf
  | true =>
    rw [hcd] at h
    exact e21_core hΦ hints N hf hI hpl hp hQ hc h7 h1 h2 hnb hcd h
end Go.V
