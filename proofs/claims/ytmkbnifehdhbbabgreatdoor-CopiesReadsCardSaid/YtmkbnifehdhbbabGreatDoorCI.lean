/- Part. -/
import Derived.Test.YtmkbnifehdhbbabGreatDoorVI
import Derived.Test.YtmkbnifehdhbbabGreatDoorProg
import Derived.Lib.ItoaMem
import Derived.KernelRfl
set_option linter.all false
noncomputable section
namespace Go.V
open Go.Proofs
open Go.RowKit (Below)
theorem mixed:Tryz.prog.follows .mixedOrders=true:=by kernel_rfl
theorem Wc {P:Program} {w w':World} {name:String} {k:IntKind} {zs:List Int} (h:Lib.TabIs P w name k zs) (hb:Below w.heap.size w w'):Lib.TabIs P w' name k zs:=by
 unfold Lib.TabIs World.var? at *;cases hg:P.globalNamed name with
 | none=>simp [hg] at h
 | some g =>
  simp only [hg,Option.bind_some] at h ⊢;have hlt:g<w.heap.size:=by
   rcases Nat.lt_or_ge g w.heap.size with h'|h'
   . exact h'
   . rw [Array.getElem?_eq_none h'] at h;simp at h
  rw [hb.block g hlt];exact h
theorem Eh {w w':World} {p:Addr} {v:Value} (h:w.cell? p=some v) (hb:Below w.heap.size w w'):w'.cell? p=some v:=by
 rw [hb.cell,h];rcases Nat.lt_or_ge p.block w.heap.size with h'|h'
 . exact h'
 . unfold World.cell? at h;rw [Array.getElem?_eq_none h'] at h;simp at h
instance:Inv Tryz.prog where
 I w := Lib.TabIs Tryz.prog w "internal/strconv.uint64pow10" .u64 Lib.pow10Tab /\ ∃ m, w.cell? ⟨1, 0, none⟩ = some (.int .i64 m)
 below _ _ h hb:=⟨Wc h.1 hb,h.2.elim fun m hm=>⟨m,Eh hm hb⟩⟩
abbrev U : S := .und
abbrev ba : Ty := .list (.prod (.int .i64) (.prod (.list (.int .i64)) .unit))
abbrev be : Ty := .list (.list (.int .i64))
abbrev cB : Ty := .prod (.prod (.int .i64) (.prod (.list (.prod (.int .i64) (.prod (.list (.int .i64)) .unit))) .unit)) .unit
abbrev ch : Ty := .prod (.list (.int .i64)) (.prod (.int .i64) .unit)
abbrev ef : Ty := .prod (.prod (.int .i64) (.prod (.list (.prod (.int .i64) (.prod (.list (.int .i64)) .unit))) .unit)) (.prod (.list (.list (.int .i64))) .unit)
abbrev eY : Ty := .prod (.int .i64) (.prod (.int .i64) .unit)
abbrev fy : Ty := .prod (.prod (.int .i64) (.prod (.list (.prod (.int .i64) (.prod (.list (.int .i64)) .unit))) .unit)) (.prod (.int .i64) .unit)
abbrev gZ : Ty := .prod (.list (.int .i64)) (.prod (.list (.int .i64)) .unit)
abbrev eZ : Ty := .prod (.list (.int .i64)) (.prod .raw .unit)
abbrev iP : Ty := .prod (.prod (.int .i64) (.prod (.list (.prod (.int .i64) (.prod (.list (.int .i64)) .unit))) .unit)) (.prod (.int .i64) (.prod (.int .i64) .unit))
abbrev kt : Ty := .prod (.int .i64) (.prod (.int .i64) (.prod (.int .i64) .unit))
abbrev ku : Ty := .list (.list (.list (.int .i64)))
abbrev kv : Ty := .prod (.int .i64) (.prod (.list (.prod (.int .i64) (.prod (.list (.int .i64)) .unit))) .unit)
abbrev ov : Ty := .prod (.int .i64) (.prod (.int .i64) (.prod (.int .i64) (.prod (.int .i64) .unit)))
abbrev jC : Ty := .prod (.list (.int .i64)) .unit
abbrev ow : Ty := .prod (.list (.prod (.int .i64) (.prod (.int .i64) .unit))) (.prod (.int .i64) .unit)
abbrev me : Ty := .prod (.prod (.int .i64) (.prod (.int .i64) (.prod (.int .i64) .unit))) (.prod .bool .unit)
abbrev ox : Ty := .prod (.prod (.prod (.prod (.int .i64) (.prod (.list (.prod (.int .i64) (.prod (.list (.int .i64)) .unit))) .unit)) (.prod (.list (.list (.int .i64))) .unit)) (.prod (.list (.list (.list (.int .i64)))) .unit)) (.prod (.int .i64) .unit)
abbrev rM : Ty := .prod (.list (.list (.int .i64))) (.prod (.int .i64) .unit)
abbrev oy : Ty := .prod (.list (.prod (.int .i64) (.prod (.int .i64) (.prod (.int .i64) .unit)))) (.prod .raw .unit)
abbrev mf : Ty := .prod (.int .i64) (.prod (.list (.int .i64)) .unit)
abbrev vh : Ty := .prod (.list (.list (.int .i64))) (.prod (.list (.list (.int .i64))) .unit)
abbrev vj : Ty := .prod (.list (.prod (.int .i64) (.prod (.int .i64) .unit))) (.prod (.list (.prod (.int .i64) (.prod (.int .i64) .unit))) .unit)
abbrev mg : Ty := .prod (.prod (.int .i64) (.prod (.list (.prod (.int .i64) (.prod (.list (.int .i64)) .unit))) .unit)) (.prod (.list (.int .i64)) .unit)
abbrev Ca : Ty := .prod (.dyn 141 (.prod (.prod (.int .i64) (.prod (.list (.int .i64)) .unit)) .unit)) .unit
abbrev Cb : Ty := .prod (.prod (.int .i64) (.prod (.int .i64) (.prod (.int .i64) .unit))) (.prod (.prod (.int .i64) (.prod (.int .i64) (.prod (.int .i64) .unit))) .unit)
abbrev Cc : Ty := .prod (.prod (.int .i64) (.prod (.list (.prod (.int .i64) (.prod (.list (.int .i64)) .unit))) .unit)) (.prod (.int .i64) (.prod (.int .i64) (.prod (.int .i64) .unit)))
abbrev Cd : Ty := .prod (.prod (.int .i64) (.prod (.list (.prod (.int .i64) (.prod (.list (.int .i64)) .unit))) .unit)) (.prod (.list (.list (.int .i64))) (.prod (.list (.int .i64)) .unit))
abbrev Ce : Ty := .prod (.prod (.prod (.int .i64) (.prod (.list (.int .i64)) .unit)) .unit) .unit
abbrev Cf : Ty := .prod (.prod (.prod (.int .i64) (.prod (.list (.prod (.int .i64) (.prod (.list (.int .i64)) .unit))) .unit)) (.prod (.list (.list (.int .i64))) .unit)) (.prod (.int .i64) (.prod (.int .i64) (.prod (.int .i64) .unit)))
abbrev Cg : Ty := .prod (.prod (.prod (.int .i64) (.prod (.list (.prod (.int .i64) (.prod (.list (.int .i64)) .unit))) .unit)) (.prod (.list (.list (.int .i64))) .unit)) (.prod (.list (.list (.list (.int .i64)))) .unit)
abbrev Ci : Ty := .prod (.prod (.prod (.prod (.int .i64) (.prod (.list (.prod (.int .i64) (.prod (.list (.int .i64)) .unit))) .unit)) (.prod (.list (.list (.int .i64))) .unit)) (.prod (.list (.list (.list (.int .i64)))) .unit)) (.prod (.int .i64) (.prod (.int .i64) .unit))
abbrev JL : Ty := .prod (.prod (.prod (.int .i64) (.prod (.list (.prod (.int .i64) (.prod (.list (.int .i64)) .unit))) .unit)) (.prod (.list (.list (.int .i64))) .unit)) (.prod (.int .i64) (.prod (.int .i64) .unit))
abbrev aE : Type := (List Int) × Unit
abbrev aS : Type := (Int × ((List (Int × ((List Int) × Unit))) × Unit)) × Unit
abbrev bB : Type := (List Int) × (Int × Unit)
abbrev cG : Type := (Int × ((List (Int × ((List Int) × Unit))) × Unit)) × ((List (List Int)) × Unit)
abbrev dZ : Type := (Int × ((List (Int × ((List Int) × Unit))) × Unit)) × (Int × Unit)
abbrev eG : Type := (List Int) × ((List Int) × Unit)
abbrev eV : Type := (Int × ((List (Int × ((List Int) × Unit))) × Unit)) × (Int × (Int × Unit))
abbrev gU : Type := (List UInt8) × Unit
abbrev iC : Type := (((Int × ((List (Int × ((List Int) × Unit))) × Unit)) × ((List (List Int)) × Unit)) × ((List (List (List Int))) × Unit)) × (Int × Unit)
abbrev iE : Type := (List Int) × (Value × Unit)
abbrev jo : Type := (Int × ((List (Int × ((List Int) × Unit))) × Unit)) × ((List (List Int)) × ((List Int) × Unit))
abbrev jZ : Type := ((Int × ((List (Int × ((List Int) × Unit))) × Unit)) × ((List (List Int)) × Unit)) × ((List (List (List Int))) × Unit)
abbrev lp : Type := ((Int × ((List Int) × Unit)) × Unit) × Unit
abbrev lq : Type := (List (Int × (Int × Unit))) × (Int × Unit)
abbrev lr : Type := (List (List Int)) × (Int × Unit)
abbrev gS : Type := (Int × ((List (Int × ((List Int) × Unit))) × Unit)) × ((List Int) × Unit)
abbrev m8 : Type := (List (Int × (Int × (Int × Unit)))) × (Value × Unit)
abbrev m9 : Type := (List (Int × (Int × Unit))) × ((List (Int × (Int × Unit))) × Unit)
abbrev m_ : Type := (List (List Int)) × ((List (List Int)) × Unit)
abbrev qx : Type := (((Int × ((List (Int × ((List Int) × Unit))) × Unit)) × ((List (List Int)) × Unit)) × ((List (List (List Int))) × Unit)) × (Int × (Int × Unit))
abbrev qy : Type := ((Int × ((List (Int × ((List Int) × Unit))) × Unit)) × ((List (List Int)) × Unit)) × (Int × (Int × (Int × Unit)))
abbrev qz : Type := ((Int × ((List (Int × ((List Int) × Unit))) × Unit)) × ((List (List Int)) × Unit)) × (Int × (Int × Unit))
abbrev qA : Type := (List (Int × ((List Int) × Unit))) × Unit
abbrev tX : Type := (((Int × ((List (Int × ((List Int) × Unit))) × Unit)) × ((List (List Int)) × Unit)) × (Int × (Value × Unit))) × ((Int × (Int × Unit)) × Unit)
abbrev tY : Type := (((Int × ((List (Int × ((List Int) × Unit))) × Unit)) × ((List (List Int)) × Unit)) × (Int × (Value × Unit))) × (Int × (Int × Unit))
abbrev nh : Type := (((Int × ((List (Int × ((List Int) × Unit))) × Unit)) × ((List (List Int)) × Unit)) × (Int × (Value × Unit))) × Unit
abbrev tZ : Type := (Int × (Int × (Int × Unit))) × (Bool × Unit)
abbrev zJ : Type := (Int × ((List (Int × ((List Int) × Unit))) × Unit)) × (Int × (Int × (Int × Unit)))
abbrev zK : Type := (Int × (Int × (Int × Unit))) × ((Int × (Int × (Int × Unit))) × Unit)
abbrev GF : Type := (((Int × ((List (Int × ((List Int) × Unit))) × Unit)) × ((List (List Int)) × Unit)) × (Int × (Value × Unit))) × (Int × (Int × (Int × Unit)))
end Go.V
end
