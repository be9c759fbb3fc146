/- A part of the proof of a law of the step table. -/
import Derived.Test.YtpnilbemlgbokaaGreatDoorSY
set_option linter.all false
namespace Go.V
open Go.Proofs
open Go.RowKit (Below)
noncomputable def reg317 : Array Oper := match findRegion 3 (bodyOf Tryz.f17) with | some o => o | none => #[]
theorem info317 : reg317.toList.map opInfo = [
  (some 40, .move (.tmp 3), none),
  (some 41, .build 25 #[(1, .tmp 40)], none),
  (some 9, .alloc 25, none),
  (none, .store 25 (.tmp 9) (.tmp 41), none)] := by kernel_rfl
theorem size317 : reg317.size = 4 := by kernel_rfl
theorem info_at317 {i : Nat} {x : Option Tmp × Op × Option (Nat × Bool)} (hx : (reg317.toList.map opInfo)[i]? = some x) : ∃ o, reg317[i]? = some o ∧ o.dst = x.1 ∧ o.op = x.2.1 ∧ o.guard = x.2.2 := by
  rw [List.getElem?_map, Array.getElem?_toList] at hx
  cases h : reg317[i]? with
  | none => rw [h] at hx; cases hx
  | some o => rw [h] at hx; cases hx; exact ⟨o, rfl, rfl, rfl, rfl⟩
def g317 (st : St) : RT := match get st 3 with
  | .d (.int .i64) r => (match isBox (get st 40) || isBox (get st 41) || isBox (get st 9) || !(st.length == 110) with
    | true => .fail
    | false => .ret ((((st.map dropS).set 40 .und).set 41 .und).set 9 (.box [.own SPN [] true, .d (.int .i64) r, .d (.int .i64) (0 : Int)])))
  | _ => .fail
theorem ex_build25b {a : Act} {w : World} {o : Oper} {y : Int} (ho : o.op = .build 25 #[(1, .tmp 40)]) (h2 : tm a 40 = .int .i64 y) : (execOp a.eval o).run Tryz.prog w = .ok (.value (.agg #[.slice none 0 0, .int .i64 y, .int .i64 0])) w := by
  have e2 : a.eval (.tmp 40) = .int .i64 y := h2
  simp only [execOp, ho, List.map_toArray, List.map_cons, List.map_nil, e2]
  simp [go_sem]
theorem ex_store25b {a : Act} {w : World} {o : Oper} {y : Int} (ho : o.op = .store 25 (.tmp 9) (.tmp 41)) (h1 : tm a 9 = .pointer (some ⟨w.heap.size, 0, none⟩)) (h2 : tm a 41 = .agg #[.slice none 0 0, .int .i64 y, .int .i64 0]) :
    (execOp a.eval o).run Tryz.prog (w.alloc (.cells #[.slice none 0 0, .int .i64 0, .int .i64 0] 25)) = .ok .skip (w.alloc (.cells #[.slice none 0 0, .int .i64 y, .int .i64 0] 25)) := by
  have e1 : a.eval (.tmp 9) = .pointer (some ⟨w.heap.size, 0, none⟩) := h1
  have e2 : a.eval (.tmp 41) = .agg #[.slice none 0 0, .int .i64 y, .int .i64 0] := h2
  simp only [execOp, ho, e1, e2]
  simp [go_sem]
theorem reg317_ok : RegOK Tryz.prog (.region 3 reg317 false) g317 := by
  intro ρ F M0 w0 n hI hpl k fin Q hf hk st a w hc h
  unfold g317 at h
  split at h
  rotate_left
  · exact absurd h.symm hf
  rename_i r h6
  split at h
  · exact absurd h.symm hf
  rename_i hnb
  simp only [Bool.or_eq_false_iff] at hnb
  obtain ⟨⟨⟨n40, n41⟩, n9⟩, hlen⟩ := hnb
  have hlen : st.length = 110 := by simpa using hlen
  obtain ⟨hfr, M, hg⟩ := hc.drop
  have hm : ∀ i, get (st.map dropS) i = dropS (get st i) := fun i => get_map st i
  obtain ⟨hfr0, M', hg0⟩ := hc
  have s6 := hg0.slot 3
  rw [h6] at s6
  obtain ⟨cs6, e6, q6⟩ := s6
  have q6' : cs6 = [.int .i64 r] := q6
  subst q6'
  have t6 : tm a 3 = .int .i64 r := e6
  have hsz : a.tmps.size = 110 := hg0.size.trans hlen
  have g40 := put_und hg (d := 40) (by rw [hm]; exact isBox_dropS n40) (.int .i64 r)
  have g41 := put_und g40 (d := 41) (by rw [get_setne (by omega), hm]; exact isBox_dropS n41) (.agg #[.slice none 0 0, .int .i64 r, .int .i64 0])
  have hbx : isBox (get (((st.map dropS).set 40 .und).set 41 .und) 9) = false := by
    rw [get_setne (by omega), get_setne (by omega), hm]; exact isBox_dropS n9
  obtain ⟨o0, i0, d0, p0, q0⟩ := info_at317 (i := 0) (x := (some 40, .move (.tmp 3), none)) (by rw [info317]; rfl)
  obtain ⟨o2, i2, d2, p2, q2⟩ := info_at317 (i := 1) (x := (some 41, .build 25 #[(1, .tmp 40)], none)) (by rw [info317]; rfl)
  obtain ⟨o3, i3, d3, p3, q3⟩ := info_at317 (i := 2) (x := (some 9, .alloc 25, none)) (by rw [info317]; rfl)
  obtain ⟨o4, i4, d4, p4, q4⟩ := info_at317 (i := 3) (x := (none, .store 25 (.tmp 9) (.tmp 41), none)) (by rw [info317]; rfl)
  obtain ⟨M2, hgb⟩ := g41.put_box (o := o3) (E := 25) (fun d hd => by rw [d3] at hd; cases hd; exact hbx) (cs := [.own SPN [] true, .d (.int .i64) r, .d (.int .i64) (0 : Int)]) (cells := #[.slice none 0 0, .int .i64 r, .int .i64 0])
    (fun k t xs hh h => by match k, h with | 0, h => cases h | 1, h => cases h | 2, h => cases h | _ + 3, h => cases h)
    (fun k t xs h => by match k, h with | 0, h => cases h | 1, h => cases h | 2, h => cases h | _ + 3, h => cases h)
    (fun k t xs hh v h1 h2 => by match k, h1, h2 with | 0, _, h2 => cases h2; rfl | 1, h1, _ => cases h1 | 2, h1, _ => cases h1 | _ + 3, h1, _ => cases h1) rfl
    (fun k c u h1 h2 => by
      match k, h1, h2 with
      | 0, h1, h2 => cases h1; cases h2; exact ⟨RepC.list_nil _, .inl ⟨rfl, rfl⟩⟩
      | 1, h1, h2 => cases h1; cases h2; exact rfl
      | 2, h1, h2 => cases h1; cases h2; exact rfl
      | _ + 3, h1, _ => cases h1)
  rw [d3] at hgb
  refine wpIn_region ?_
  rw [size317]
  show wpOpsIn (fen none) n Tryz.prog reg317 Q [0, 1, 2, 3] a w
  rw [wpOpsIn_cons]
  refine opn_value i0 (wanted_none q0) (fun c h => by rw [p0] at h; cases h) (ex_move p0) ?_
  rw [d0, t6, wpOpsIn_cons]
  refine opn_value i2 (wanted_none q2) (fun c h => by rw [p2] at h; cases h) (ex_build25b (y := r) p2 (by rw [tm_put_same (by omega)])) ?_
  rw [d2, wpOpsIn_cons]
  refine opn_value i3 (wanted_none q3) (fun c h => by rw [p3] at h; cases h) (ex_alloc25 p3) ?_
  rw [d3, wpOpsIn_cons]
  refine opn_skipped i4 (wanted_none q4) (fun c h => by rw [p4] at h; cases h) (ex_store25b (y := r) p4 (by rw [tm_put_same (by simp only [size_put]; omega)]) (by rw [tm_put_other (by omega), tm_put_same (by simp only [size_put]; omega)])) ?_
  rw [d4]
  exact hk _ _ _ ⟨hfr.alloc hg.room _, M2, hgb⟩ h
end Go.V
