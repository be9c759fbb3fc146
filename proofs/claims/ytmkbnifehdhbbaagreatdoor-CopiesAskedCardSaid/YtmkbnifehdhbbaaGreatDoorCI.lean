/- Part. -/
import Derived.Test.YtmkbnifehdhbbaaGreatDoorVI
import Derived.Test.YtmkbnifehdhbbaaGreatDoorProg
import Derived.Lib.ItoaMem
import Derived.KernelRfl
set_option linter.all false
noncomputable section
namespace Go.V
open Go.Proofs
open Go.RowKit (Below)
theorem mixed:Tryz.prog.follows .mixedOrders=true:=by kernel_rfl
theorem Vz {P:Program} {w w':World} {name:String} {k:IntKind} {zs:List Int} (h:Lib.TabIs P w name k zs) (hb:Below w.heap.size w w'):Lib.TabIs P w' name k zs:=by
 unfold Lib.TabIs World.var? at *;cases hg:P.globalNamed name with
 | none=>simp [hg] at h
 | some g =>
  simp only [hg,Option.bind_some] at h ⊢;have hlt:g<w.heap.size:=by
   rcases Nat.lt_or_ge g w.heap.size with h'|h'
   . exact h'
   . rw [Array.getElem?_eq_none h'] at h;simp at h
  rw [hb.block g hlt];exact h
theorem D5 {w w':World} {p:Addr} {v:Value} (h:w.cell? p=some v) (hb:Below w.heap.size w w'):w'.cell? p=some v:=by
 rw [hb.cell,h];rcases Nat.lt_or_ge p.block w.heap.size with h'|h'
 . exact h'
 . unfold World.cell? at h;rw [Array.getElem?_eq_none h'] at h;simp at h
instance:Inv Tryz.prog where
 I w := Lib.TabIs Tryz.prog w "internal/strconv.uint64pow10" .u64 Lib.pow10Tab /\ ∃ m, w.cell? ⟨0, 0, none⟩ = some (.int .i64 m)
 below _ _ h hb:=⟨Vz h.1 hb,h.2.elim fun m hm=>⟨m,D5 hm hb⟩⟩
abbrev U : S := .und
abbrev ba : Ty := .list (.prod (.int .i64) (.prod (.list (.int .i64)) .unit))
abbrev be : Ty := .list (.list (.int .i64))
abbrev cB : Ty := .prod (.prod (.int .i64) (.prod (.list (.prod (.int .i64) (.prod (.list (.int .i64)) .unit))) .unit)) .unit
abbrev ch : Ty := .prod (.list (.int .i64)) (.prod (.int .i64) .unit)
abbrev ef : Ty := .prod (.prod (.int .i64) (.prod (.list (.prod (.int .i64) (.prod (.list (.int .i64)) .unit))) .unit)) (.prod (.list (.list (.int .i64))) .unit)
abbrev eY : Ty := .prod (.int .i64) (.prod (.int .i64) .unit)
abbrev fy : Ty := .prod (.prod (.int .i64) (.prod (.list (.prod (.int .i64) (.prod (.list (.int .i64)) .unit))) .unit)) (.prod (.int .i64) .unit)
abbrev gY : Ty := .prod (.list (.int .i64)) (.prod (.list (.int .i64)) .unit)
abbrev eZ : Ty := .prod (.list (.int .i64)) (.prod .raw .unit)
abbrev iM : Ty := .prod (.prod (.int .i64) (.prod (.list (.prod (.int .i64) (.prod (.list (.int .i64)) .unit))) .unit)) (.prod (.int .i64) (.prod (.int .i64) .unit))
abbrev kn : Ty := .prod (.int .i64) (.prod (.int .i64) (.prod (.int .i64) .unit))
abbrev ko : Ty := .list (.list (.list (.int .i64)))
abbrev kq : Ty := .prod (.int .i64) (.prod (.list (.prod (.int .i64) (.prod (.list (.int .i64)) .unit))) .unit)
abbrev nY : Ty := .prod (.int .i64) (.prod (.int .i64) (.prod (.int .i64) (.prod (.int .i64) .unit)))
abbrev jy : Ty := .prod (.list (.int .i64)) .unit
abbrev nZ : Ty := .prod (.list (.prod (.int .i64) (.prod (.int .i64) .unit))) (.prod (.int .i64) .unit)
abbrev lO : Ty := .prod (.prod (.int .i64) (.prod (.int .i64) (.prod (.int .i64) .unit))) (.prod .bool .unit)
abbrev n8 : Ty := .prod (.prod (.prod (.prod (.int .i64) (.prod (.list (.prod (.int .i64) (.prod (.list (.int .i64)) .unit))) .unit)) (.prod (.list (.list (.int .i64))) .unit)) (.prod (.list (.list (.list (.int .i64)))) .unit)) (.prod (.int .i64) .unit)
abbrev rr : Ty := .prod (.list (.list (.int .i64))) (.prod (.int .i64) .unit)
abbrev n_ : Ty := .prod (.list (.prod (.int .i64) (.prod (.int .i64) (.prod (.int .i64) .unit)))) (.prod .raw .unit)
abbrev lP : Ty := .prod (.int .i64) (.prod (.list (.int .i64)) .unit)
abbrev uS : Ty := .prod (.list (.list (.int .i64))) (.prod (.list (.list (.int .i64))) .unit)
abbrev uT : Ty := .prod (.list (.prod (.int .i64) (.prod (.int .i64) .unit))) (.prod (.list (.prod (.int .i64) (.prod (.int .i64) .unit))) .unit)
abbrev lQ : Ty := .prod (.prod (.int .i64) (.prod (.list (.prod (.int .i64) (.prod (.list (.int .i64)) .unit))) .unit)) (.prod (.list (.int .i64)) .unit)
abbrev BW : Ty := .prod (.dyn 160 (.prod (.prod (.int .i64) (.prod (.list (.int .i64)) .unit)) .unit)) .unit
abbrev BX : Ty := .prod (.prod (.int .i64) (.prod (.int .i64) (.prod (.int .i64) .unit))) (.prod (.prod (.int .i64) (.prod (.int .i64) (.prod (.int .i64) .unit))) .unit)
abbrev BZ : Ty := .prod (.prod (.int .i64) (.prod (.list (.prod (.int .i64) (.prod (.list (.int .i64)) .unit))) .unit)) (.prod (.int .i64) (.prod (.int .i64) (.prod (.int .i64) .unit)))
abbrev B0 : Ty := .prod (.prod (.int .i64) (.prod (.list (.prod (.int .i64) (.prod (.list (.int .i64)) .unit))) .unit)) (.prod (.list (.list (.int .i64))) (.prod (.list (.int .i64)) .unit))
abbrev B1 : Ty := .prod (.prod (.prod (.int .i64) (.prod (.list (.int .i64)) .unit)) .unit) .unit
abbrev B2 : Ty := .prod (.prod (.prod (.int .i64) (.prod (.list (.prod (.int .i64) (.prod (.list (.int .i64)) .unit))) .unit)) (.prod (.list (.list (.int .i64))) .unit)) (.prod (.int .i64) (.prod (.int .i64) (.prod (.int .i64) .unit)))
abbrev B3 : Ty := .prod (.prod (.prod (.int .i64) (.prod (.list (.prod (.int .i64) (.prod (.list (.int .i64)) .unit))) .unit)) (.prod (.list (.list (.int .i64))) .unit)) (.prod (.list (.list (.list (.int .i64)))) .unit)
abbrev B4 : Ty := .prod (.prod (.prod (.prod (.int .i64) (.prod (.list (.prod (.int .i64) (.prod (.list (.int .i64)) .unit))) .unit)) (.prod (.list (.list (.int .i64))) .unit)) (.prod (.list (.list (.list (.int .i64)))) .unit)) (.prod (.int .i64) (.prod (.int .i64) .unit))
abbrev Ju : Ty := .prod (.prod (.prod (.int .i64) (.prod (.list (.prod (.int .i64) (.prod (.list (.int .i64)) .unit))) .unit)) (.prod (.list (.list (.int .i64))) .unit)) (.prod (.int .i64) (.prod (.int .i64) .unit))
abbrev aE : Type := (List Int) × Unit
abbrev aS : Type := (Int × ((List (Int × ((List Int) × Unit))) × Unit)) × Unit
abbrev bB : Type := (List Int) × (Int × Unit)
abbrev cG : Type := (Int × ((List (Int × ((List Int) × Unit))) × Unit)) × ((List (List Int)) × Unit)
abbrev dZ : Type := (Int × ((List (Int × ((List Int) × Unit))) × Unit)) × (Int × Unit)
abbrev eG : Type := (List Int) × ((List Int) × Unit)
abbrev eV : Type := (Int × ((List (Int × ((List Int) × Unit))) × Unit)) × (Int × (Int × Unit))
abbrev gS : Type := (List UInt8) × Unit
abbrev iz : Type := (((Int × ((List (Int × ((List Int) × Unit))) × Unit)) × ((List (List Int)) × Unit)) × ((List (List (List Int))) × Unit)) × (Int × Unit)
abbrev iA : Type := (List Int) × (Value × Unit)
abbrev jk : Type := (Int × ((List (Int × ((List Int) × Unit))) × Unit)) × ((List (List Int)) × ((List Int) × Unit))
abbrev jU : Type := ((Int × ((List (Int × ((List Int) × Unit))) × Unit)) × ((List (List Int)) × Unit)) × ((List (List (List Int))) × Unit)
abbrev kW : Type := ((Int × ((List Int) × Unit)) × Unit) × Unit
abbrev kX : Type := (List (Int × (Int × Unit))) × (Int × Unit)
abbrev kY : Type := (List (List Int)) × (Int × Unit)
abbrev gR : Type := (Int × ((List (Int × ((List Int) × Unit))) × Unit)) × ((List Int) × Unit)
abbrev mO : Type := (List (Int × (Int × (Int × Unit)))) × (Value × Unit)
abbrev mP : Type := (List (Int × (Int × Unit))) × ((List (Int × (Int × Unit))) × Unit)
abbrev mQ : Type := (List (List Int)) × ((List (List Int)) × Unit)
abbrev qh : Type := (((Int × ((List (Int × ((List Int) × Unit))) × Unit)) × ((List (List Int)) × Unit)) × ((List (List (List Int))) × Unit)) × (Int × (Int × Unit))
abbrev qi : Type := ((Int × ((List (Int × ((List Int) × Unit))) × Unit)) × ((List (List Int)) × Unit)) × (Int × (Int × (Int × Unit)))
abbrev qj : Type := ((Int × ((List (Int × ((List Int) × Unit))) × Unit)) × ((List (List Int)) × Unit)) × (Int × (Int × Unit))
abbrev qk : Type := (List (Int × ((List Int) × Unit))) × Unit
abbrev tH : Type := (((Int × ((List (Int × ((List Int) × Unit))) × Unit)) × ((List (List Int)) × Unit)) × (Int × (Value × Unit))) × ((Int × (Int × Unit)) × Unit)
abbrev tI : Type := (((Int × ((List (Int × ((List Int) × Unit))) × Unit)) × ((List (List Int)) × Unit)) × (Int × (Value × Unit))) × (Int × (Int × Unit))
abbrev mR : Type := (((Int × ((List (Int × ((List Int) × Unit))) × Unit)) × ((List (List Int)) × Unit)) × (Int × (Value × Unit))) × Unit
abbrev tJ : Type := (Int × (Int × (Int × Unit))) × (Bool × Unit)
abbrev zv : Type := (Int × ((List (Int × ((List Int) × Unit))) × Unit)) × (Int × (Int × (Int × Unit)))
abbrev zw : Type := (Int × (Int × (Int × Unit))) × ((Int × (Int × (Int × Unit))) × Unit)
abbrev Gn : Type := (((Int × ((List (Int × ((List Int) × Unit))) × Unit)) × ((List (List Int)) × Unit)) × (Int × (Value × Unit))) × (Int × (Int × (Int × Unit)))
end Go.V
end
