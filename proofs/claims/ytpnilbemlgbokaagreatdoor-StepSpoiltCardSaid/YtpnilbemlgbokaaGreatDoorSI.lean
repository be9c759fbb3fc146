/- A part of the proof of a law of the step table. -/
import Derived.Test.YtpnilbemlgbokaaGreatDoorVI
import Derived.Test.YtpnilbemlgbokaaGreatDoorProg
import Derived.Lib.ItoaMem
import Derived.KernelRfl
set_option linter.all false
namespace Go.V
open Go.Proofs
open Go.RowKit (Below)
theorem mixed : Tryz.prog.follows .mixedOrders = true := by kernel_rfl
theorem tabIs_below {P : Program} {w w' : World} {name : String} {k : IntKind} {zs : List Int} (h : Lib.TabIs P w name k zs) (hb : Below w.heap.size w w') : Lib.TabIs P w' name k zs := by
  unfold Lib.TabIs World.var? at *
  cases hg : P.globalNamed name with
  | none => simp [hg] at h
  | some g =>
    simp only [hg, Option.bind_some] at h ⊢
    have hlt : g < w.heap.size := by
      rcases Nat.lt_or_ge g w.heap.size with h' | h'
      · exact h'
      · rw [Array.getElem?_eq_none h'] at h; simp at h
    rw [hb.block g hlt]
    exact h
theorem cell_below {w w' : World} {p : Addr} {v : Value} (h : w.cell? p = some v) (hb : Below w.heap.size w w') : w'.cell? p = some v := by
  rw [hb.cell, h]
  rcases Nat.lt_or_ge p.block w.heap.size with h' | h'
  · exact h'
  · unfold World.cell? at h
    rw [Array.getElem?_eq_none h'] at h; simp at h
instance : Inv Tryz.prog where
  I w := Lib.TabIs Tryz.prog w "internal/strconv.uint64pow10" .u64 Lib.pow10Tab ∧ ∃ m, w.cell? ⟨1, 0, none⟩ = some (.int .i64 m)
  below _ _ h hb := ⟨tabIs_below h.1 hb, h.2.elim fun m hm => ⟨m, cell_below hm hb⟩⟩
end Go.V
