/- A part of the proof of a law of the step table. -/
import Derived.Test.YtpnilbemlgbokaaGreatDoorS7k
set_option linter.all false
namespace Go.V
open Go.Proofs
noncomputable def specs20 : List Spec := [sp24v, sp68v, sp71v, sp70v, sp34v, sp67v]
def hints20 : List (Nat × List Nat) := []
noncomputable def F20 (N : Nat) (x : ((List UInt8) × Unit)) : Out Bool :=
 match (decide ((lenI x.1) > (370 : Int))) with
 | true =>
  match f24v () with
  | .ret r_1 =>
   .ret r_1
  | .pan p_2 =>
   .pan p_2
  | .fail => .fail
 | false =>
  match f68v (x.1, ()) with
  | .ret r_3 =>
   match f71v (x.1, ()) with
   | .ret r_5 =>
    match (decide ((lenI x.1) > (270 : Int))) with
    | true =>
     match (r_3.2.1 == (3 : Int)) with
     | true =>
      match f70v (r_3.1, ((([] : List (Int × (Int × Unit))), ((0 : Int), ((0 : Int), ()))), ())) with
      | .ret r_7 =>
       match r_7 with
       | true =>
        match f24v () with
        | .ret r_9 =>
         .ret r_9
        | .pan p_10 =>
         .pan p_10
        | .fail => .fail
       | false =>
        .ret false
      | .pan p_8 =>
       .pan p_8
      | .fail => .fail
     | false =>
      .ret false
    | false =>
     match (!r_5.2.1) with
     | true =>
      match (r_3.2.1 == (4 : Int)) with
      | true =>
       match f70v (r_3.1, ((([] : List (Int × (Int × Unit))), ((0 : Int), ((0 : Int), ()))), ())) with
       | .ret r_11 =>
        match r_11 with
        | true =>
         match f24v () with
         | .ret r_13 =>
          .ret r_13
         | .pan p_14 =>
          .pan p_14
         | .fail => .fail
        | false =>
         .ret false
       | .pan p_12 =>
        .pan p_12
       | .fail => .fail
      | false =>
       .ret false
     | false =>
      match f34v (r_5.1, ()) with
      | .ret r_15 =>
       match (!r_15) with
       | true =>
        match (r_3.2.1 == (2 : Int)) with
        | true =>
         match f70v (r_3.1, ((([] : List (Int × (Int × Unit))), ((0 : Int), ((0 : Int), ()))), ())) with
         | .ret r_17 =>
          match r_17 with
          | true =>
           match f24v () with
           | .ret r_19 =>
            .ret r_19
           | .pan p_20 =>
            .pan p_20
           | .fail => .fail
          | false =>
           .ret false
         | .pan p_18 =>
          .pan p_18
         | .fail => .fail
        | false =>
         .ret false
       | false =>
        match f67v (r_3.1, ()) with
        | .ret r_21 =>
         match (r_3.2.1 == (0 : Int)) with
         | true =>
          match f70v (r_3.1, (r_5.1, ())) with
          | .ret r_23 =>
           match r_23 with
           | true =>
            match (r_21.2.1 == (0 : Int)) with
            | true =>
             match (r_21.1 == x.1) with
             | true =>
              match f24v () with
              | .ret r_25 =>
               .ret r_25
              | .pan p_26 =>
               .pan p_26
              | .fail => .fail
             | false =>
              .ret false
            | false =>
             .ret false
           | false =>
            .ret false
          | .pan p_24 =>
           .pan p_24
          | .fail => .fail
         | false =>
          .ret false
        | .pan p_22 =>
         .pan p_22
        | .fail => .fail
      | .pan p_16 =>
       .pan p_16
      | .fail => .fail
   | .pan p_6 =>
    .pan p_6
   | .fail => .fail
  | .pan p_4 =>
   .pan p_4
  | .fail => .fail
theorem e20 (N : Nat) (x : ((List UInt8) × Unit)) : vfn Tryz.prog (phi specs20) hints20 N Tryz.f20 false false (.prod .str .unit) .bool x = F20 N x := by
 kernel_rfl
noncomputable def f20 (x : ((List UInt8) × Unit)) : Out Bool := F20 fuel x
noncomputable def sp20 : Spec := ⟨20, .call, (.prod .str .unit), .bool, false, false, f20⟩
theorem c20 : Contract Tryz.prog sp20 := contract_at (l := specs20) (arg := (.prod .str .unit)) (res := .bool) (multi := false) (own := false) (F := f20) mixed (all_cons c24v (all_cons c68v (all_cons c71v (all_cons c70v (all_cons c34v (all_cons c67v all_nil)))))) Tryz.func20 rfl hints20 fun x _ => ⟨fuel, e20 fuel x⟩
end Go.V
