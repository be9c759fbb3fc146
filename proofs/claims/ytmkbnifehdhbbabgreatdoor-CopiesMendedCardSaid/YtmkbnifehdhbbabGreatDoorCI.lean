/- A part of the proof of a law of the copies. -/
import Derived.Test.YtmkbnifehdhbbabGreatDoorVI
import Derived.Test.YtmkbnifehdhbbabGreatDoorProg
import Derived.Lib.ItoaMem
import Derived.KernelRfl
set_option linter.all false
noncomputable section
namespace Go.V
open Go.Proofs
open Go.RowKit (Below)
theorem mixed:Tryz.prog.follows .mixedOrders=true:=by kernel_rfl
theorem tabIs_below {P:Program} {w w':World} {name:String} {k:IntKind} {zs:List Int} (h:Lib.TabIs P w name k zs) (hb:Below w.heap.size w w'):Lib.TabIs P w' name k zs:=by
 unfold Lib.TabIs World.var? at *;cases hg:P.globalNamed name with
 | none=>simp [hg] at h
 | some g =>
  simp only [hg,Option.bind_some] at h ⊢;have hlt:g<w.heap.size:=by
   rcases Nat.lt_or_ge g w.heap.size with h'|h'
   . exact h'
   . rw [Array.getElem?_eq_none h'] at h;simp at h
  rw [hb.block g hlt];exact h
theorem cell_below {w w':World} {p:Addr} {v:Value} (h:w.cell? p=some v) (hb:Below w.heap.size w w'):w'.cell? p=some v:=by
 rw [hb.cell,h];rcases Nat.lt_or_ge p.block w.heap.size with h'|h'
 . exact h'
 . unfold World.cell? at h;rw [Array.getElem?_eq_none h'] at h;simp at h
instance:Inv Tryz.prog where
 I w := Lib.TabIs Tryz.prog w "internal/strconv.uint64pow10" .u64 Lib.pow10Tab /\ ∃ m, w.cell? ⟨1, 0, none⟩ = some (.int .i64 m)
 below _ _ h hb:=⟨tabIs_below h.1 hb,h.2.elim fun m hm=>⟨m,cell_below hm hb⟩⟩
abbrev U : S := .und
abbrev ty0 : Ty := .list (.prod (.int .i64) (.prod (.list (.int .i64)) .unit))
abbrev ty1 : Ty := .list (.list (.int .i64))
abbrev ty2 : Ty := .prod (.prod (.int .i64) (.prod (.list (.prod (.int .i64) (.prod (.list (.int .i64)) .unit))) .unit)) .unit
abbrev ty3 : Ty := .prod (.list (.int .i64)) (.prod (.int .i64) .unit)
abbrev ty4 : Ty := .prod (.prod (.int .i64) (.prod (.list (.prod (.int .i64) (.prod (.list (.int .i64)) .unit))) .unit)) (.prod (.list (.list (.int .i64))) .unit)
abbrev ty5 : Ty := .prod (.int .i64) (.prod (.int .i64) .unit)
abbrev ty6 : Ty := .prod (.prod (.int .i64) (.prod (.list (.prod (.int .i64) (.prod (.list (.int .i64)) .unit))) .unit)) (.prod (.int .i64) .unit)
abbrev ty7 : Ty := .prod (.list (.int .i64)) (.prod (.list (.int .i64)) .unit)
abbrev ty8 : Ty := .prod (.list (.int .i64)) (.prod .raw .unit)
abbrev ty9 : Ty := .prod (.prod (.int .i64) (.prod (.list (.prod (.int .i64) (.prod (.list (.int .i64)) .unit))) .unit)) (.prod (.int .i64) (.prod (.int .i64) .unit))
abbrev ty10 : Ty := .prod (.int .i64) (.prod (.int .i64) (.prod (.int .i64) .unit))
abbrev ty11 : Ty := .list (.list (.list (.int .i64)))
abbrev ty12 : Ty := .prod (.int .i64) (.prod (.list (.prod (.int .i64) (.prod (.list (.int .i64)) .unit))) .unit)
abbrev ty13 : Ty := .prod (.int .i64) (.prod (.int .i64) (.prod (.int .i64) (.prod (.int .i64) .unit)))
abbrev ty14 : Ty := .prod (.list (.int .i64)) .unit
abbrev ty15 : Ty := .prod (.list (.prod (.int .i64) (.prod (.int .i64) .unit))) (.prod (.int .i64) .unit)
abbrev ty16 : Ty := .prod (.prod (.int .i64) (.prod (.int .i64) (.prod (.int .i64) .unit))) (.prod .bool .unit)
abbrev ty17 : Ty := .prod (.prod (.prod (.prod (.int .i64) (.prod (.list (.prod (.int .i64) (.prod (.list (.int .i64)) .unit))) .unit)) (.prod (.list (.list (.int .i64))) .unit)) (.prod (.list (.list (.list (.int .i64)))) .unit)) (.prod (.int .i64) .unit)
abbrev ty18 : Ty := .prod (.list (.list (.int .i64))) (.prod (.int .i64) .unit)
abbrev ty19 : Ty := .prod (.list (.prod (.int .i64) (.prod (.int .i64) (.prod (.int .i64) .unit)))) (.prod .raw .unit)
abbrev ty20 : Ty := .prod (.int .i64) (.prod (.list (.int .i64)) .unit)
abbrev ty21 : Ty := .prod (.list (.list (.int .i64))) (.prod (.list (.list (.int .i64))) .unit)
abbrev ty22 : Ty := .prod (.list (.prod (.int .i64) (.prod (.int .i64) .unit))) (.prod (.list (.prod (.int .i64) (.prod (.int .i64) .unit))) .unit)
abbrev ty23 : Ty := .prod (.prod (.int .i64) (.prod (.list (.prod (.int .i64) (.prod (.list (.int .i64)) .unit))) .unit)) (.prod (.list (.int .i64)) .unit)
abbrev ty25 : Ty := .prod (.dyn 141 (.prod (.prod (.int .i64) (.prod (.list (.int .i64)) .unit)) .unit)) .unit
abbrev ty27 : Ty := .prod (.prod (.int .i64) (.prod (.int .i64) (.prod (.int .i64) .unit))) (.prod (.prod (.int .i64) (.prod (.int .i64) (.prod (.int .i64) .unit))) .unit)
abbrev ty28 : Ty := .prod (.prod (.int .i64) (.prod (.list (.prod (.int .i64) (.prod (.list (.int .i64)) .unit))) .unit)) (.prod (.int .i64) (.prod (.int .i64) (.prod (.int .i64) .unit)))
abbrev ty29 : Ty := .prod (.prod (.int .i64) (.prod (.list (.prod (.int .i64) (.prod (.list (.int .i64)) .unit))) .unit)) (.prod (.list (.list (.int .i64))) (.prod (.list (.int .i64)) .unit))
abbrev ty30 : Ty := .prod (.prod (.prod (.int .i64) (.prod (.list (.int .i64)) .unit)) .unit) .unit
abbrev ty31 : Ty := .prod (.prod (.prod (.int .i64) (.prod (.list (.prod (.int .i64) (.prod (.list (.int .i64)) .unit))) .unit)) (.prod (.list (.list (.int .i64))) .unit)) (.prod (.int .i64) (.prod (.int .i64) (.prod (.int .i64) .unit)))
abbrev ty32 : Ty := .prod (.prod (.prod (.int .i64) (.prod (.list (.prod (.int .i64) (.prod (.list (.int .i64)) .unit))) .unit)) (.prod (.list (.list (.int .i64))) .unit)) (.prod (.list (.list (.list (.int .i64)))) .unit)
abbrev ty33 : Ty := .prod (.prod (.prod (.prod (.int .i64) (.prod (.list (.prod (.int .i64) (.prod (.list (.int .i64)) .unit))) .unit)) (.prod (.list (.list (.int .i64))) .unit)) (.prod (.list (.list (.list (.int .i64)))) .unit)) (.prod (.int .i64) (.prod (.int .i64) .unit))
abbrev ty40 : Ty := .prod (.prod (.prod (.int .i64) (.prod (.list (.prod (.int .i64) (.prod (.list (.int .i64)) .unit))) .unit)) (.prod (.list (.list (.int .i64))) .unit)) (.prod (.int .i64) (.prod (.int .i64) .unit))
abbrev lt0 : Type := (List Int) × Unit
abbrev lt1 : Type := (Int × ((List (Int × ((List Int) × Unit))) × Unit)) × Unit
abbrev lt2 : Type := (List Int) × (Int × Unit)
abbrev lt3 : Type := (Int × ((List (Int × ((List Int) × Unit))) × Unit)) × ((List (List Int)) × Unit)
abbrev lt4 : Type := (Int × ((List (Int × ((List Int) × Unit))) × Unit)) × (Int × Unit)
abbrev lt5 : Type := (List Int) × ((List Int) × Unit)
abbrev lt6 : Type := (Int × ((List (Int × ((List Int) × Unit))) × Unit)) × (Int × (Int × Unit))
abbrev lt7 : Type := (List UInt8) × Unit
abbrev lt8 : Type := (((Int × ((List (Int × ((List Int) × Unit))) × Unit)) × ((List (List Int)) × Unit)) × ((List (List (List Int))) × Unit)) × (Int × Unit)
abbrev lt9 : Type := (List Int) × (Value × Unit)
abbrev lt10 : Type := (Int × ((List (Int × ((List Int) × Unit))) × Unit)) × ((List (List Int)) × ((List Int) × Unit))
abbrev lt11 : Type := ((Int × ((List (Int × ((List Int) × Unit))) × Unit)) × ((List (List Int)) × Unit)) × ((List (List (List Int))) × Unit)
abbrev lt12 : Type := ((Int × ((List Int) × Unit)) × Unit) × Unit
abbrev lt13 : Type := (List (Int × (Int × Unit))) × (Int × Unit)
abbrev lt14 : Type := (List (List Int)) × (Int × Unit)
abbrev lt15 : Type := (Int × ((List (Int × ((List Int) × Unit))) × Unit)) × ((List Int) × Unit)
abbrev lt16 : Type := (List (Int × (Int × (Int × Unit)))) × (Value × Unit)
abbrev lt17 : Type := (List (Int × (Int × Unit))) × ((List (Int × (Int × Unit))) × Unit)
abbrev lt18 : Type := (List (List Int)) × ((List (List Int)) × Unit)
abbrev lt19 : Type := (((Int × ((List (Int × ((List Int) × Unit))) × Unit)) × ((List (List Int)) × Unit)) × ((List (List (List Int))) × Unit)) × (Int × (Int × Unit))
abbrev lt20 : Type := ((Int × ((List (Int × ((List Int) × Unit))) × Unit)) × ((List (List Int)) × Unit)) × (Int × (Int × (Int × Unit)))
abbrev lt21 : Type := ((Int × ((List (Int × ((List Int) × Unit))) × Unit)) × ((List (List Int)) × Unit)) × (Int × (Int × Unit))
abbrev lt22 : Type := (List (Int × ((List Int) × Unit))) × Unit
abbrev lt23 : Type := (((Int × ((List (Int × ((List Int) × Unit))) × Unit)) × ((List (List Int)) × Unit)) × (Int × (Value × Unit))) × ((Int × (Int × Unit)) × Unit)
abbrev lt24 : Type := (((Int × ((List (Int × ((List Int) × Unit))) × Unit)) × ((List (List Int)) × Unit)) × (Int × (Value × Unit))) × (Int × (Int × Unit))
abbrev lt25 : Type := (((Int × ((List (Int × ((List Int) × Unit))) × Unit)) × ((List (List Int)) × Unit)) × (Int × (Value × Unit))) × Unit
abbrev lt26 : Type := (Int × (Int × (Int × Unit))) × (Bool × Unit)
abbrev lt30 : Type := (Int × ((List (Int × ((List Int) × Unit))) × Unit)) × (Int × (Int × (Int × Unit)))
abbrev lt31 : Type := (Int × (Int × (Int × Unit))) × ((Int × (Int × (Int × Unit))) × Unit)
abbrev lt32 : Type := (((Int × ((List (Int × ((List Int) × Unit))) × Unit)) × ((List (List Int)) × Unit)) × (Int × (Value × Unit))) × (Int × (Int × (Int × Unit)))
end Go.V
end
