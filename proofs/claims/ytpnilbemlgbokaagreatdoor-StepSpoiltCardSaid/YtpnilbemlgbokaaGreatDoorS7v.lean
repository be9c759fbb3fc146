/- A part of the proof of a law of the step table. -/
import Derived.Test.YtpnilbemlgbokaaGreatDoorS3
import Derived.Test.YtpnilbemlgbokaaGreatDoorS6
set_option linter.all false
namespace Go.V
open Go.Proofs
noncomputable def veil {α : Type} (x : α) : α := Classical.choose (⟨x, rfl⟩ : ∃ y, y = x)
theorem veil_eq {α : Type} (x : α) : veil x = x := Classical.choose_spec (⟨x, rfl⟩ : ∃ y, y = x)
@[irreducible] noncomputable def f22v : (((List (Int × (Int × Unit))) × (Int × (Int × Unit))) × ((List Int) × Unit)) → Out Bool := veil f22
theorem f22v_eq : f22v = f22 := by unfold f22v; exact veil_eq f22
noncomputable def sp22v : Spec := ⟨22, .call, ty0, .bool, false, false, f22v⟩
theorem c22v : Contract Tryz.prog sp22v := by
 unfold sp22v
 rw [f22v_eq]
 exact c22
@[irreducible] noncomputable def f23v : (((List (Int × (Int × Unit))) × (Int × (Int × Unit))) × ((List Int) × Unit)) → Out Bool := veil f23
theorem f23v_eq : f23v = f23 := by unfold f23v; exact veil_eq f23
noncomputable def sp23v : Spec := ⟨23, .call, ty0, .bool, false, false, f23v⟩
theorem c23v : Contract Tryz.prog sp23v := by
 unfold sp23v
 rw [f23v_eq]
 exact c23
@[irreducible] noncomputable def f25v : (((List (Int × (Int × Unit))) × (Int × (Int × Unit))) × ((List Int) × ((List Int) × Unit))) → Out ((List Int) × (Int × Unit)) := veil f25
theorem f25v_eq : f25v = f25 := by unfold f25v; exact veil_eq f25
noncomputable def sp25v : Spec := ⟨25, .call, ty10, ty4, true, false, f25v⟩
theorem c25v : Contract Tryz.prog sp25v := by
 unfold sp25v
 rw [f25v_eq]
 exact c25
@[irreducible] noncomputable def f26v : (((List (Int × (Int × Unit))) × (Int × (Int × Unit))) × ((List Int) × ((List Int) × Unit))) → Out (Bool × (Int × Unit)) := veil f26
theorem f26v_eq : f26v = f26 := by unfold f26v; exact veil_eq f26
noncomputable def sp26v : Spec := ⟨26, .call, ty10, (.prod .bool (.prod (.int .i64) .unit)), true, false, f26v⟩
theorem c26v : Contract Tryz.prog sp26v := by
 unfold sp26v
 rw [f26v_eq]
 exact c26
@[irreducible] noncomputable def f27v : (Int × (Int × (Int × Unit))) → Out (Int × (Int × Unit)) := veil f27
theorem f27v_eq : f27v = f27 := by unfold f27v; exact veil_eq f27
noncomputable def sp27v : Spec := ⟨27, .call, ty5, ty3, true, false, f27v⟩
theorem c27v : Contract Tryz.prog sp27v := by
 unfold sp27v
 rw [f27v_eq]
 exact c27
@[irreducible] noncomputable def f28v : (Int × (Int × (Int × Unit))) → Out ((List Int) × (Int × Unit)) := veil f28
theorem f28v_eq : f28v = f28 := by unfold f28v; exact veil_eq f28
noncomputable def sp28v : Spec := ⟨28, .call, ty5, ty4, true, false, f28v⟩
theorem c28v : Contract Tryz.prog sp28v := by
 unfold sp28v
 rw [f28v_eq]
 exact c28
@[irreducible] noncomputable def f29v : (Int × (Int × Unit)) → Out Bool := veil f29
theorem f29v_eq : f29v = f29 := by unfold f29v; exact veil_eq f29
noncomputable def sp29v : Spec := ⟨29, .call, ty3, .bool, false, false, f29v⟩
theorem c29v : Contract Tryz.prog sp29v := by
 unfold sp29v
 rw [f29v_eq]
 exact c29
@[irreducible] noncomputable def f30v : (Int × Unit) → Out Bool := veil f30
theorem f30v_eq : f30v = f30 := by unfold f30v; exact veil_eq f30
noncomputable def sp30v : Spec := ⟨30, .call, (.prod (.int .i64) .unit), .bool, false, false, f30v⟩
theorem c30v : Contract Tryz.prog sp30v := by
 unfold sp30v
 rw [f30v_eq]
 exact c30
@[irreducible] noncomputable def f31v : ((List Int) × ((List Int) × Unit)) → Out Bool := veil f31
theorem f31v_eq : f31v = f31 := by unfold f31v; exact veil_eq f31
noncomputable def sp31v : Spec := ⟨31, .call, ty9, .bool, false, false, f31v⟩
theorem c31v : Contract Tryz.prog sp31v := by
 unfold sp31v
 rw [f31v_eq]
 exact c31
@[irreducible] noncomputable def f32v : (Int × (Int × (Int × Unit))) → Out (List Int) := veil f32
theorem f32v_eq : f32v = f32 := by unfold f32v; exact veil_eq f32
noncomputable def sp32v : Spec := ⟨32, .call, ty5, (.list (.int .i64)), false, true, f32v⟩
theorem c32v : Contract Tryz.prog sp32v := by
 unfold sp32v
 rw [f32v_eq]
 exact c32
@[irreducible] noncomputable def f34v : (((List (Int × (Int × Unit))) × (Int × (Int × Unit))) × Unit) → Out Bool := veil f34
theorem f34v_eq : f34v = f34 := by unfold f34v; exact veil_eq f34
noncomputable def sp34v : Spec := ⟨34, .call, ty1, .bool, false, false, f34v⟩
theorem c34v : Contract Tryz.prog sp34v := by
 unfold sp34v
 rw [f34v_eq]
 exact c34
@[irreducible] noncomputable def f35v : (((List (Int × (Int × Unit))) × (Int × (Int × Unit))) × (Int × Unit)) → Out Bool := veil f35
theorem f35v_eq : f35v = f35 := by unfold f35v; exact veil_eq f35
noncomputable def sp35v : Spec := ⟨35, .call, ty6, .bool, false, false, f35v⟩
theorem c35v : Contract Tryz.prog sp35v := by
 unfold sp35v
 rw [f35v_eq]
 exact c35
@[irreducible] noncomputable def f36v : (((List (Int × (Int × Unit))) × (Int × (Int × Unit))) × ((List Int) × Unit)) → Out (Int × (Int × Unit)) := veil f36
theorem f36v_eq : f36v = f36 := by unfold f36v; exact veil_eq f36
noncomputable def sp36v : Spec := ⟨36, .call, ty0, ty3, true, false, f36v⟩
theorem c36v : Contract Tryz.prog sp36v := by
 unfold sp36v
 rw [f36v_eq]
 exact c36
@[irreducible] noncomputable def f37v : (((List (Int × (Int × Unit))) × (Int × (Int × Unit))) × ((List Int) × Unit)) → Out ((List Int) × (Int × Unit)) := veil f37
theorem f37v_eq : f37v = f37 := by unfold f37v; exact veil_eq f37
noncomputable def sp37v : Spec := ⟨37, .call, ty0, ty4, true, false, f37v⟩
theorem c37v : Contract Tryz.prog sp37v := by
 unfold sp37v
 rw [f37v_eq]
 exact c37
@[irreducible] noncomputable def f38v : (((List (Int × (Int × Unit))) × (Int × (Int × Unit))) × ((List Int) × Unit)) → Out Bool := veil f38
theorem f38v_eq : f38v = f38 := by unfold f38v; exact veil_eq f38
noncomputable def sp38v : Spec := ⟨38, .call, ty0, .bool, false, false, f38v⟩
theorem c38v : Contract Tryz.prog sp38v := by
 unfold sp38v
 rw [f38v_eq]
 exact c38
@[irreducible] noncomputable def f39v : (((List (Int × (Int × Unit))) × (Int × (Int × Unit))) × ((List Int) × Unit)) → Out Int := veil f39
theorem f39v_eq : f39v = f39 := by unfold f39v; exact veil_eq f39
noncomputable def sp39v : Spec := ⟨39, .call, ty0, (.int .i64), false, false, f39v⟩
theorem c39v : Contract Tryz.prog sp39v := by
 unfold sp39v
 rw [f39v_eq]
 exact c39
@[irreducible] noncomputable def f40v : (((List (Int × (Int × Unit))) × (Int × (Int × Unit))) × ((List Int) × Unit)) → Out (List Int) := veil f40
theorem f40v_eq : f40v = f40 := by unfold f40v; exact veil_eq f40
noncomputable def sp40v : Spec := ⟨40, .call, ty0, (.list (.int .i64)), false, true, f40v⟩
theorem c40v : Contract Tryz.prog sp40v := by
 unfold sp40v
 rw [f40v_eq]
 exact c40
@[irreducible] noncomputable def f41v : ((List Int) × (Int × Unit)) → Out Bool := veil f41
theorem f41v_eq : f41v = f41 := by unfold f41v; exact veil_eq f41
noncomputable def sp41v : Spec := ⟨41, .call, ty4, .bool, false, false, f41v⟩
theorem c41v : Contract Tryz.prog sp41v := by
 unfold sp41v
 rw [f41v_eq]
 exact c41
@[irreducible] noncomputable def f42v : (((List (Int × (Int × Unit))) × (Int × (Int × Unit))) × ((List Int) × Unit)) → Out ((List Int) × (Int × Unit)) := veil f42
theorem f42v_eq : f42v = f42 := by unfold f42v; exact veil_eq f42
noncomputable def sp42v : Spec := ⟨42, .call, ty0, ty4, true, false, f42v⟩
theorem c42v : Contract Tryz.prog sp42v := by
 unfold sp42v
 rw [f42v_eq]
 exact c42
@[irreducible] noncomputable def f43v : (((List (Int × (Int × Unit))) × (Int × (Int × Unit))) × ((List Int) × Unit)) → Out (Int × (Int × Unit)) := veil f43
theorem f43v_eq : f43v = f43 := by unfold f43v; exact veil_eq f43
noncomputable def sp43v : Spec := ⟨43, .call, ty0, ty3, true, false, f43v⟩
theorem c43v : Contract Tryz.prog sp43v := by
 unfold sp43v
 rw [f43v_eq]
 exact c43
@[irreducible] noncomputable def f44v : (((List (Int × (Int × Unit))) × (Int × (Int × Unit))) × ((List Int) × Unit)) → Out ((List Int) × (Bool × Unit)) := veil f44
theorem f44v_eq : f44v = f44 := by unfold f44v; exact veil_eq f44
noncomputable def sp44v : Spec := ⟨44, .call, ty0, ty7, true, false, f44v⟩
theorem c44v : Contract Tryz.prog sp44v := by
 unfold sp44v
 rw [f44v_eq]
 exact c44
@[irreducible] noncomputable def f45v : (((List (Int × (Int × Unit))) × (Int × (Int × Unit))) × ((List Int) × Unit)) → Out Int := veil f45
theorem f45v_eq : f45v = f45 := by unfold f45v; exact veil_eq f45
noncomputable def sp45v : Spec := ⟨45, .call, ty0, (.int .i64), false, false, f45v⟩
theorem c45v : Contract Tryz.prog sp45v := by
 unfold sp45v
 rw [f45v_eq]
 exact c45
@[irreducible] noncomputable def f46v : (Int × Unit) → Out Bool := veil f46
theorem f46v_eq : f46v = f46 := by unfold f46v; exact veil_eq f46
noncomputable def sp46v : Spec := ⟨46, .call, (.prod (.int .i64) .unit), .bool, false, false, f46v⟩
theorem c46v : Contract Tryz.prog sp46v := by
 unfold sp46v
 rw [f46v_eq]
 exact c46
@[irreducible] noncomputable def f47v : ((List Int) × ((List Int) × Unit)) → Out Bool := veil f47
theorem f47v_eq : f47v = f47 := by unfold f47v; exact veil_eq f47
noncomputable def sp47v : Spec := ⟨47, .call, ty9, .bool, false, false, f47v⟩
theorem c47v : Contract Tryz.prog sp47v := by
 unfold sp47v
 rw [f47v_eq]
 exact c47
@[irreducible] noncomputable def f48v : (((List (Int × (Int × Unit))) × (Int × (Int × Unit))) × (Int × Unit)) → Out ((List Int) × (Int × Unit)) := veil f48
theorem f48v_eq : f48v = f48 := by unfold f48v; exact veil_eq f48
noncomputable def sp48v : Spec := ⟨48, .call, ty6, ty4, true, false, f48v⟩
theorem c48v : Contract Tryz.prog sp48v := by
 unfold sp48v
 rw [f48v_eq]
 exact c48
@[irreducible] noncomputable def f49v : (((List (Int × (Int × Unit))) × (Int × (Int × Unit))) × Unit) → Out (Int × (Int × Unit)) := veil f49
theorem f49v_eq : f49v = f49 := by unfold f49v; exact veil_eq f49
noncomputable def sp49v : Spec := ⟨49, .call, ty1, ty3, true, false, f49v⟩
theorem c49v : Contract Tryz.prog sp49v := by
 unfold sp49v
 rw [f49v_eq]
 exact c49
@[irreducible] noncomputable def f50v : (((List (Int × (Int × Unit))) × (Int × (Int × Unit))) × Unit) → Out Int := veil f50
theorem f50v_eq : f50v = f50 := by unfold f50v; exact veil_eq f50
noncomputable def sp50v : Spec := ⟨50, .call, ty1, (.int .i64), false, false, f50v⟩
theorem c50v : Contract Tryz.prog sp50v := by
 unfold sp50v
 rw [f50v_eq]
 exact c50
@[irreducible] noncomputable def f51v : (((List (Int × (Int × Unit))) × (Int × (Int × Unit))) × (Int × Unit)) → Out Bool := veil f51
theorem f51v_eq : f51v = f51 := by unfold f51v; exact veil_eq f51
noncomputable def sp51v : Spec := ⟨51, .call, ty6, .bool, false, false, f51v⟩
theorem c51v : Contract Tryz.prog sp51v := by
 unfold sp51v
 rw [f51v_eq]
 exact c51
@[irreducible] noncomputable def f52v : (((List (Int × (Int × Unit))) × (Int × (Int × Unit))) × (Int × Unit)) → Out (List Int) := veil f52
theorem f52v_eq : f52v = f52 := by unfold f52v; exact veil_eq f52
noncomputable def sp52v : Spec := ⟨52, .call, ty6, (.list (.int .i64)), false, true, f52v⟩
theorem c52v : Contract Tryz.prog sp52v := by
 unfold sp52v
 rw [f52v_eq]
 exact c52
@[irreducible] noncomputable def f53v : (((List (Int × (Int × Unit))) × (Int × (Int × Unit))) × Unit) → Out ((List Int) × (Int × Unit)) := veil f53
theorem f53v_eq : f53v = f53 := by unfold f53v; exact veil_eq f53
noncomputable def sp53v : Spec := ⟨53, .call, ty1, ty4, true, false, f53v⟩
theorem c53v : Contract Tryz.prog sp53v := by
 unfold sp53v
 rw [f53v_eq]
 exact c53
@[irreducible] noncomputable def f54v : (((List (Int × (Int × Unit))) × (Int × (Int × Unit))) × ((List Int) × Unit)) → Out (Bool × (Bool × Unit)) := veil f54
theorem f54v_eq : f54v = f54 := by unfold f54v; exact veil_eq f54
noncomputable def sp54v : Spec := ⟨54, .call, ty0, (.prod .bool (.prod .bool .unit)), true, false, f54v⟩
theorem c54v : Contract Tryz.prog sp54v := by
 unfold sp54v
 rw [f54v_eq]
 exact c54
@[irreducible] noncomputable def f55v : (((List (Int × (Int × Unit))) × (Int × (Int × Unit))) × Unit) → Out (Int × (Int × Unit)) := veil f55
theorem f55v_eq : f55v = f55 := by unfold f55v; exact veil_eq f55
noncomputable def sp55v : Spec := ⟨55, .call, ty1, ty3, true, false, f55v⟩
theorem c55v : Contract Tryz.prog sp55v := by
 unfold sp55v
 rw [f55v_eq]
 exact c55
@[irreducible] noncomputable def f56v : (((List (Int × (Int × Unit))) × (Int × (Int × Unit))) × Unit) → Out ((List Int) × (Int × Unit)) := veil f56
theorem f56v_eq : f56v = f56 := by unfold f56v; exact veil_eq f56
noncomputable def sp56v : Spec := ⟨56, .call, ty1, ty4, true, false, f56v⟩
theorem c56v : Contract Tryz.prog sp56v := by
 unfold sp56v
 rw [f56v_eq]
 exact c56
@[irreducible] noncomputable def f57v : (((List (Int × (Int × Unit))) × (Int × (Int × Unit))) × Unit) → Out (List (List Int)) := veil f57
theorem f57v_eq : f57v = f57 := by unfold f57v; exact veil_eq f57
noncomputable def sp57v : Spec := ⟨57, .call, ty1, (.list (.list (.int .i64))), false, true, f57v⟩
theorem c57v : Contract Tryz.prog sp57v := by
 unfold sp57v
 rw [f57v_eq]
 exact c57
@[irreducible] noncomputable def f58v : (((List (Int × (Int × Unit))) × (Int × (Int × Unit))) × Unit) → Out (List Int) := veil f58
theorem f58v_eq : f58v = f58 := by unfold f58v; exact veil_eq f58
noncomputable def sp58v : Spec := ⟨58, .call, ty1, (.list (.int .i64)), false, true, f58v⟩
theorem c58v : Contract Tryz.prog sp58v := by
 unfold sp58v
 rw [f58v_eq]
 exact c58
@[irreducible] noncomputable def f59v : (((List (Int × (Int × Unit))) × (Int × (Int × Unit))) × ((List Int) × Unit)) → Out (Int × (Int × (Int × Unit))) := veil f59
theorem f59v_eq : f59v = f59 := by unfold f59v; exact veil_eq f59
noncomputable def sp59v : Spec := ⟨59, .call, ty0, ty5, true, false, f59v⟩
theorem c59v : Contract Tryz.prog sp59v := by
 unfold sp59v
 rw [f59v_eq]
 exact c59
@[irreducible] noncomputable def f60v : (((List (Int × (Int × Unit))) × (Int × (Int × Unit))) × ((List Int) × Unit)) → Out (Int × (Int × (Bool × Unit))) := veil f60
theorem f60v_eq : f60v = f60 := by unfold f60v; exact veil_eq f60
noncomputable def sp60v : Spec := ⟨60, .call, ty0, ty28, true, false, f60v⟩
theorem c60v : Contract Tryz.prog sp60v := by
 unfold sp60v
 rw [f60v_eq]
 exact c60
@[irreducible] noncomputable def f61v : ((List Int) × (Int × Unit)) → Out (List Int) := veil f61
theorem f61v_eq : f61v = f61 := by unfold f61v; exact veil_eq f61
noncomputable def sp61v : Spec := ⟨61, .call, ty4, (.list (.int .i64)), false, true, f61v⟩
theorem c61v : Contract Tryz.prog sp61v := by
 unfold sp61v
 rw [f61v_eq]
 exact c61
@[irreducible] noncomputable def f64v : (((List (Int × (Int × Unit))) × (Int × (Int × Unit))) × Unit) → Out Int := veil f64
theorem f64v_eq : f64v = f64 := by unfold f64v; exact veil_eq f64
noncomputable def sp64v : Spec := ⟨64, .call, ty1, (.int .i64), false, false, f64v⟩
theorem c64v : Contract Tryz.prog sp64v := by
 unfold sp64v
 rw [f64v_eq]
 exact c64
@[irreducible] noncomputable def f65v : (((List (Int × (Int × Unit))) × (Int × (Int × Unit))) × ((List Int) × ((List Int) × Unit))) → Out (List Int) := veil f65
theorem f65v_eq : f65v = f65 := by unfold f65v; exact veil_eq f65
noncomputable def sp65v : Spec := ⟨65, .call, ty10, (.list (.int .i64)), false, true, f65v⟩
theorem c65v : Contract Tryz.prog sp65v := by
 unfold sp65v
 rw [f65v_eq]
 exact c65
@[irreducible] noncomputable def f66v : (((List (Int × (Int × Unit))) × (Int × (Int × Unit))) × ((List Int) × ((List Int) × Unit))) → Out Bool := veil f66
theorem f66v_eq : f66v = f66 := by unfold f66v; exact veil_eq f66
noncomputable def sp66v : Spec := ⟨66, .call, ty10, .bool, false, false, f66v⟩
theorem c66v : Contract Tryz.prog sp66v := by
 unfold sp66v
 rw [f66v_eq]
 exact c66
@[irreducible] noncomputable def f67v : (((List (Int × (Int × Unit))) × (Int × (Int × Unit))) × Unit) → Out ((List UInt8) × (Int × Unit)) := veil f67
theorem f67v_eq : f67v = f67 := by unfold f67v; exact veil_eq f67
noncomputable def sp67v : Spec := ⟨67, .call, ty1, ty20, true, false, f67v⟩
theorem c67v : Contract Tryz.prog sp67v := by
 unfold sp67v
 rw [f67v_eq]
 exact c67
@[irreducible] noncomputable def f68v : ((List UInt8) × Unit) → Out (((List (Int × (Int × Unit))) × (Int × (Int × Unit))) × (Int × Unit)) := veil f68
theorem f68v_eq : f68v = f68 := by unfold f68v; exact veil_eq f68
noncomputable def sp68v : Spec := ⟨68, .call, (.prod .str .unit), ty6, true, false, f68v⟩
theorem c68v : Contract Tryz.prog sp68v := by
 unfold sp68v
 rw [f68v_eq]
 exact c68
@[irreducible] noncomputable def f69v : (((List (Int × (Int × Unit))) × (Int × (Int × Unit))) × Unit) → Out (List UInt8) := veil f69
theorem f69v_eq : f69v = f69 := by unfold f69v; exact veil_eq f69
noncomputable def sp69v : Spec := ⟨69, .call, ty1, .str, false, false, f69v⟩
theorem c69v : Contract Tryz.prog sp69v := by
 unfold sp69v
 rw [f69v_eq]
 exact c69
@[irreducible] noncomputable def f70v : (((List (Int × (Int × Unit))) × (Int × (Int × Unit))) × (((List (Int × (Int × Unit))) × (Int × (Int × Unit))) × Unit)) → Out Bool := veil f70
theorem f70v_eq : f70v = f70 := by unfold f70v; exact veil_eq f70
noncomputable def sp70v : Spec := ⟨70, .call, ty29, .bool, false, false, f70v⟩
theorem c70v : Contract Tryz.prog sp70v := by
 unfold sp70v
 rw [f70v_eq]
 exact c70
@[irreducible] noncomputable def f71v : ((List UInt8) × Unit) → Out (((List (Int × (Int × Unit))) × (Int × (Int × Unit))) × (Bool × Unit)) := veil f71
theorem f71v_eq : f71v = f71 := by unfold f71v; exact veil_eq f71
noncomputable def sp71v : Spec := ⟨71, .call, (.prod .str .unit), ty27, true, false, f71v⟩
theorem c71v : Contract Tryz.prog sp71v := by
 unfold sp71v
 rw [f71v_eq]
 exact c71
@[irreducible] noncomputable def f76v : Unit → Out ((List (Int × (Int × Unit))) × (Int × (Int × Unit))) := veil f76
theorem f76v_eq : f76v = f76 := by unfold f76v; exact veil_eq f76
noncomputable def sp76v : Spec := ⟨76, .call, .unit, ty8, false, false, f76v⟩
theorem c76v : Contract Tryz.prog sp76v := by
 unfold sp76v
 rw [f76v_eq]
 exact c76
end Go.V
