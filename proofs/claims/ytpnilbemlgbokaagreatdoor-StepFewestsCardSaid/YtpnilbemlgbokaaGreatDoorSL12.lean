/- A part of the proof of a law of the step table. -/
import Derived.Test.YtpnilbemlgbokaaGreatDoorS7k
set_option linter.all false
namespace Go.V
open Go.Proofs
noncomputable def specs12 : List Spec := [sp33, sp24v, sp53v, sp55v, sp56v, sp34v, sp57v, sp31v, sp58v]
def hints12 : List (Nat × List Nat) := []
noncomputable def F12 (N : Nat) (x : (((List (Int × (Int × Unit))) × (Int × (Int × Unit))) × Unit)) : Out Bool :=
 match (!(decide ((lenI x.1.1) ≤ (16 : Int)))) with
 | true =>
  match f24v () with
  | .ret r_1 =>
   .ret r_1
  | .pan p_2 =>
   .pan p_2
  | .fail => .fail
 | false =>
  match f53v (x.1, ()) with
  | .ret r_3 =>
   match f55v (x.1, ()) with
   | .ret r_5 =>
    match f56v (x.1, ()) with
    | .ret r_7 =>
     match f34v (x.1, ()) with
     | .ret r_9 =>
      match (!r_9) with
      | true =>
       match (r_3.2.1 == (2 : Int)) with
       | true =>
        match ((lenI r_3.1) == (0 : Int)) with
        | true =>
         match (r_5.2.1 == (2 : Int)) with
         | true =>
          match (r_5.1 == (0 : Int)) with
          | true =>
           match (r_7.2.1 == (2 : Int)) with
           | true =>
            match ((lenI r_7.1) == (0 : Int)) with
            | true =>
             match f24v () with
             | .ret r_11 =>
              .ret r_11
             | .pan p_12 =>
              .pan p_12
             | .fail => .fail
            | false =>
             .ret false
           | false =>
            .ret false
          | false =>
           .ret false
         | false =>
          .ret false
        | false =>
         .ret false
       | false =>
        .ret false
      | false =>
       match f57v (x.1, ()) with
       | .ret r_13 =>
        match (r_3.2.1 == (0 : Int)) with
        | true =>
         bif (inb (0 : Int) r_13.length) then
          match f31v (r_3.1, ((List.getD r_13 (0 : Int).toNat ([] : List Int)), ())) with
          | .ret r_15 =>
           match r_15 with
           | true =>
            match (r_5.2.1 == (0 : Int)) with
            | true =>
             match (r_5.1 == (lenI r_13)) with
             | true =>
              match (r_7.2.1 == (0 : Int)) with
              | true =>
               match f58v (x.1, ()) with
               | .ret r_17 =>
                match f31v (r_7.1, (r_17, ())) with
                | .ret r_19 =>
                 match r_19 with
                 | true =>
                  match f24v () with
                  | .ret r_21 =>
                   .ret r_21
                  | .pan p_22 =>
                   .pan p_22
                  | .fail => .fail
                 | false =>
                  .ret false
                | .pan p_20 =>
                 .pan p_20
                | .fail => .fail
               | .pan p_18 =>
                .pan p_18
               | .fail => .fail
              | false =>
               .ret false
             | false =>
              .ret false
            | false =>
             .ret false
           | false =>
            .ret false
          | .pan p_16 =>
           .pan p_16
          | .fail => .fail
         else .fail
        | false =>
         .ret false
       | .pan p_14 =>
        .pan p_14
       | .fail => .fail
     | .pan p_10 =>
      .pan p_10
     | .fail => .fail
    | .pan p_8 =>
     .pan p_8
    | .fail => .fail
   | .pan p_6 =>
    .pan p_6
   | .fail => .fail
  | .pan p_4 =>
   .pan p_4
  | .fail => .fail
theorem e12 (N : Nat) (x : (((List (Int × (Int × Unit))) × (Int × (Int × Unit))) × Unit)) : vfn Tryz.prog (phi specs12) hints12 N Tryz.f12 false false ty1 .bool x = F12 N x := by
 kernel_rfl
noncomputable def f12 (x : (((List (Int × (Int × Unit))) × (Int × (Int × Unit))) × Unit)) : Out Bool := F12 fuel x
noncomputable def sp12 : Spec := ⟨12, .call, ty1, .bool, false, false, f12⟩
theorem c12 : Contract Tryz.prog sp12 := contract_at (l := specs12) (arg := ty1) (res := .bool) (multi := false) (own := false) (F := f12) mixed (all_cons c33 (all_cons c24v (all_cons c53v (all_cons c55v (all_cons c56v (all_cons c34v (all_cons c57v (all_cons c31v (all_cons c58v all_nil))))))))) Tryz.func12 rfl hints12 fun x _ => ⟨fuel, e12 fuel x⟩
end Go.V
