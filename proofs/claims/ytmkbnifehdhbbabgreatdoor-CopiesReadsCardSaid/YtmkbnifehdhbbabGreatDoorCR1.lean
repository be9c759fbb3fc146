/- Part. -/
import Derived.Test.YtmkbnifehdhbbabGreatDoorCI
import Derived.Test.YtmkbnifehdhbbabGreatDoorRows
import Derived.WalkKit
import Derived.ProofKit
import Derived.OpenShut
import Derived.LaidMore
import Derived.Stop.Joined
import Derived.HandedShaped
import Derived.Shelf.Vars
import Derived.Lib.LaidTab
import Derived.Lib.LaidIn
import Derived.Lib.LaidU8
set_option linter.all false
noncomputable section
namespace Go.V
open Go.Proofs Go.Proofs.YtmkbnifehdhbbabGreatDoor
open Go.ChangeShapes Go.WideShapes Go.ChangeAt Go.RowKit
theorem WM:ownKnob Tryz.prog.godebug=none:=by kernel_rfl
theorem gT : Tryz.prog.globalNamed "internal/strconv.uint64pow10" = some 0 := by kernel_rfl
theorem Rk:(Tryz.prog.globals[0]?).map (·.type)=some 210:=by kernel_rfl
def Gx : List (String × DataW Unit) := [("math/bits.deBruijn32tab", Rows.laid_math_bits_deBruijn32tab), ("math/bits.deBruijn64tab", Rows.laid_math_bits_deBruijn64tab), ("internal/strconv.uint64pow10", Rows.laid_internal_strconv_uint64pow10), ("unicode/utf8.acceptRanges", Rows.laid_unicode_utf8_acceptRanges), ("unicode/utf8.first", Rows.laid_unicode_utf8_first)]
theorem WK {W:World} (h:laidMetH Tryz.prog Gx W) (hsh:W.ShapedOpen Tryz.prog):Inv.I Tryz.prog W:=by
 rw [MakeChecks.laidMetH_plain _ _ _ (by kernel_rfl)] at h;refine ⟨?_,cell_of_shapedOpen_int (g:=1) (t:=3) (zero := #[.int .i64 0]) hsh (of_decide_eq_true (by kernel_rfl)) (by kernel_rfl) rfl (by kernel_rfl) (by kernel_rfl) (by kernel_rfl)⟩
 obtain ⟨g', t', cs, fuel, p, hg', ht', hvar, hd⟩ := Lib.laidMet.reads h (n := "internal/strconv.uint64pow10") (d := Lib.tabData .u64 Lib.pow10Tab) (.tail _ (.tail _ (.head _)))
 obtain rfl:=Option.some.inj (gT.symm.trans hg');obtain rfl:=Option.some.inj (Rk.symm.trans ht');unfold Lib.TabIs;rw [hvar,<- Lib.cells_of_tab (by kernel_rfl:Tryz.prog.underlying 210=some (.array 20 167)) (by kernel_rfl:Tryz.prog.underlying 167=some (.int .u64)) (by kernel_rfl) (by kernel_rfl) hd]
def Ey (os:Os):World :=
 let w0:=World.doorLaid Tryz.prog 3000 os
 { w0 with heap := w0.heap.modify ((Tryz.prog.globalNamed "unicode/utf8.first").getD 0) fun
  | .cells _ t frozen=>.cells (Pinned.utf8FirstZ.map fun z=>Value.int .u8 (Int.ofNat z)).toArray t frozen
  | o=>o }
theorem WF (os:Os) (args:Array Value):laidMetH Tryz.prog Gx ((Ey os).forCall (fun _ _=>0) ⟨#[],args,[]⟩).memory :=
 laidMetH_of_parts3 (fuel:=8) (laidMet_of_run' 8 (by kernel_rfl) (by kernel_rfl)) (by kernel_rfl) (by kernel_rfl)
theorem WG (os:Os) (args:Array Value):((Ey os).forCall (fun _ _=>0) ⟨#[],args,[]⟩).Shaped Tryz.prog:=World.shaped_of_RefB (by kernel_rfl) (by kernel_rfl)
theorem WO {f:Nat} {t:Ty} {F:t.den->Out Bool} (c:am Tryz.prog ⟨f,.call,t,.bool,false,false,F⟩) {x:t.den} (hx:F x = .ret true) {M:ai} {W:World} {vs:Array Value} (hI:Inv.I Tryz.prog W) (hr:bN M W t vs.toList x) (hlt:∀ b o,M b o->b<W.heap.size) :
 Calls Tryz.prog f vs W fun e W'=>e = .returned (.bool true)/\Below W.heap.size W W':=by
 have h:=c x M W vs hI hr hlt;dsimp only at h;rw [hx] at h;refine h.mono ?_;rintro e W' ⟨v,rfl,hb,hres⟩;refine ⟨?_,hb⟩;obtain ⟨M',_,_,hs,_⟩:=hres;have hs':aw M' W' .bool v true:=hs;obtain ⟨cs,e1,e2⟩:=hs';have e3:cs=[.bool true]:=e2;subst e3;rw [e1];rfl
end Go.V
end
