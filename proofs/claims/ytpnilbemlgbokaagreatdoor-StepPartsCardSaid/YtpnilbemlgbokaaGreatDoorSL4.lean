/- A part of the proof of a law of the step table. -/
import Derived.Test.YtpnilbemlgbokaaGreatDoorS7k
set_option linter.all false
namespace Go.V
open Go.Proofs
/-! F4 ephemerist/ephemeristlaw05.StepParts -/
noncomputable def specs4 : List Spec := [sp28v, sp29v, sp24v, sp30v, sp32v, sp31v]
def hints4 : List (Nat × List Nat) := []
noncomputable def F4 (N : Nat) (x : (Int × (Int × (Int × Unit)))) : Out Bool :=
  match f28v (x.1, (x.2.1, (x.2.2.1, ()))) with
  | .ret r_1 =>
    match f29v (x.1, (x.2.1, ())) with
    | .ret r_3 =>
      match (!r_3) with
      | true =>
        match (r_1.2.1 == (2 : Int)) with
        | true =>
          match ((lenI r_1.1) == (0 : Int)) with
          | true =>
            match f24v () with
            | .ret r_5 =>
              .ret r_5
            | .pan p_6 =>
              .pan p_6
            | .fail => .fail
          | false =>
            .ret false
        | false =>
          .ret false
      | false =>
        match f30v (x.2.2.1, ()) with
        | .ret r_7 =>
          match (!r_7) with
          | true =>
            match (r_1.2.1 == (2 : Int)) with
            | true =>
              match ((lenI r_1.1) == (0 : Int)) with
              | true =>
                match f24v () with
                | .ret r_9 =>
                  .ret r_9
                | .pan p_10 =>
                  .pan p_10
                | .fail => .fail
              | false =>
                .ret false
            | false =>
              .ret false
          | false =>
            match (r_1.2.1 == (0 : Int)) with
            | true =>
              match f32v (x.1, (x.2.1, (x.2.2.1, ()))) with
              | .ret r_11 =>
                match f31v (r_1.1, (r_11, ())) with
                | .ret r_13 =>
                  match r_13 with
                  | true =>
                    match f24v () with
                    | .ret r_15 =>
                      .ret r_15
                    | .pan p_16 =>
                      .pan p_16
                    | .fail => .fail
                  | false =>
                    .ret false
                | .pan p_14 =>
                  .pan p_14
                | .fail => .fail
              | .pan p_12 =>
                .pan p_12
              | .fail => .fail
            | false =>
              .ret false
        | .pan p_8 =>
          .pan p_8
        | .fail => .fail
    | .pan p_4 =>
      .pan p_4
    | .fail => .fail
  | .pan p_2 =>
    .pan p_2
  | .fail => .fail
theorem e4 (N : Nat) (x : (Int × (Int × (Int × Unit)))) : vfn Tryz.prog (phi specs4) hints4 N Tryz.f4 false false (.prod (.int .i64) (.prod (.int .i64) (.prod (.int .i64) .unit))) .bool x = F4 N x := by
  kernel_rfl
noncomputable def f4 (x : (Int × (Int × (Int × Unit)))) : Out Bool := F4 fuel x
noncomputable def sp4 : Spec := ⟨4, .call, (.prod (.int .i64) (.prod (.int .i64) (.prod (.int .i64) .unit))), .bool, false, false, f4⟩
theorem c4 : Contract Tryz.prog sp4 := contract_at (l := specs4) (arg := (.prod (.int .i64) (.prod (.int .i64) (.prod (.int .i64) .unit)))) (res := .bool) (multi := false) (own := false) (F := f4) mixed (all_cons c28v (all_cons c29v (all_cons c24v (all_cons c30v (all_cons c32v (all_cons c31v all_nil)))))) Tryz.func4 rfl hints4 fun x _ => ⟨fuel, e4 fuel x⟩
end Go.V
