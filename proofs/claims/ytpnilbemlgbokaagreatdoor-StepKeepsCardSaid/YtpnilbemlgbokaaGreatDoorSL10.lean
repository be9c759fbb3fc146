/- A part of the proof of a law of the step table. -/
import Derived.Test.YtpnilbemlgbokaaGreatDoorS7k
set_option linter.all false
namespace Go.V
open Go.Proofs
noncomputable def specs10 : List Spec := [sp33, sp24v, sp48v, sp49v, sp34v, sp50v, sp51v, sp52v, sp31v]
def hints10 : List (Nat × List Nat) := []
noncomputable def F10 (N : Nat) (x : (((List (Int × (Int × Unit))) × (Int × (Int × Unit))) × (Int × Unit))) : Out Bool :=
 match (!(decide ((lenI x.1.1) ≤ (16 : Int)))) with
 | true =>
  match f24v () with
  | .ret r_1 =>
   .ret r_1
  | .pan p_2 =>
   .pan p_2
  | .fail => .fail
 | false =>
  match f48v (x.1, (x.2.1, ())) with
  | .ret r_3 =>
   match f49v (x.1, ()) with
   | .ret r_5 =>
    match f34v (x.1, ()) with
    | .ret r_7 =>
     match (!r_7) with
     | true =>
      match (r_3.2.1 == (2 : Int)) with
      | true =>
       match ((lenI r_3.1) == (0 : Int)) with
       | true =>
        match (r_5.2.1 == (2 : Int)) with
        | true =>
         match (r_5.1 == (0 : Int)) with
         | true =>
          match f24v () with
          | .ret r_9 =>
           .ret r_9
          | .pan p_10 =>
           .pan p_10
          | .fail => .fail
         | false =>
          .ret false
        | false =>
         .ret false
       | false =>
        .ret false
      | false =>
       .ret false
     | false =>
      match (r_5.2.1 != (0 : Int)) with
      | true =>
       .ret false
      | false =>
       match f50v (x.1, ()) with
       | .ret r_11 =>
        match (r_5.1 != r_11) with
        | true =>
         .ret false
        | false =>
         match f51v (x.1, (x.2.1, ())) with
         | .ret r_13 =>
          match (!r_13) with
          | true =>
           match (r_3.2.1 == (2 : Int)) with
           | true =>
            match ((lenI r_3.1) == (0 : Int)) with
            | true =>
             match f24v () with
             | .ret r_15 =>
              .ret r_15
             | .pan p_16 =>
              .pan p_16
             | .fail => .fail
            | false =>
             .ret false
           | false =>
            .ret false
          | false =>
           match (r_3.2.1 == (0 : Int)) with
           | true =>
            match f52v (x.1, (x.2.1, ())) with
            | .ret r_17 =>
             match f31v (r_3.1, (r_17, ())) with
             | .ret r_19 =>
              match r_19 with
              | true =>
               match f24v () with
               | .ret r_21 =>
                .ret r_21
               | .pan p_22 =>
                .pan p_22
               | .fail => .fail
              | false =>
               .ret false
             | .pan p_20 =>
              .pan p_20
             | .fail => .fail
            | .pan p_18 =>
             .pan p_18
            | .fail => .fail
           | false =>
            .ret false
         | .pan p_14 =>
          .pan p_14
         | .fail => .fail
       | .pan p_12 =>
        .pan p_12
       | .fail => .fail
    | .pan p_8 =>
     .pan p_8
    | .fail => .fail
   | .pan p_6 =>
    .pan p_6
   | .fail => .fail
  | .pan p_4 =>
   .pan p_4
  | .fail => .fail
theorem e10 (N : Nat) (x : (((List (Int × (Int × Unit))) × (Int × (Int × Unit))) × (Int × Unit))) : vfn Tryz.prog (phi specs10) hints10 N Tryz.f10 false false ty6 .bool x = F10 N x := by
 kernel_rfl
noncomputable def f10 (x : (((List (Int × (Int × Unit))) × (Int × (Int × Unit))) × (Int × Unit))) : Out Bool := F10 fuel x
noncomputable def sp10 : Spec := ⟨10, .call, ty6, .bool, false, false, f10⟩
theorem c10 : Contract Tryz.prog sp10 := contract_at (l := specs10) (arg := ty6) (res := .bool) (multi := false) (own := false) (F := f10) mixed (all_cons c33 (all_cons c24v (all_cons c48v (all_cons c49v (all_cons c34v (all_cons c50v (all_cons c51v (all_cons c52v (all_cons c31v all_nil))))))))) Tryz.func10 rfl hints10 fun x _ => ⟨fuel, e10 fuel x⟩
end Go.V
