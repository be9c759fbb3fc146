/- A part of the proof of a law of the step table. -/
import Derived.Test.YtpnilbemlgbokaaGreatDoorS7k
set_option linter.all false
namespace Go.V
open Go.Proofs
noncomputable def specs14 : List Spec := [sp33, sp24v, sp59v, sp34v, sp38v, sp60v]
def hints14 : List (Nat × List Nat) := []
noncomputable def F14 (N : Nat) (x : (((List (Int × (Int × Unit))) × (Int × (Int × Unit))) × ((List Int) × Unit))) : Out Bool :=
 match (!(decide ((lenI x.1.1) ≤ (16 : Int)))) with
 | true =>
  match f24v () with
  | .ret r_1 =>
   .ret r_1
  | .pan p_2 =>
   .pan p_2
  | .fail => .fail
 | false =>
  match (decide ((lenI x.2.1) > (16 : Int))) with
  | true =>
   match f24v () with
   | .ret r_3 =>
    .ret r_3
   | .pan p_4 =>
    .pan p_4
   | .fail => .fail
  | false =>
   match f59v (x.1, (x.2.1, ())) with
   | .ret r_5 =>
    match f34v (x.1, ()) with
    | .ret r_7 =>
     match (!r_7) with
     | true =>
      match (r_5.2.2.1 == (2 : Int)) with
      | true =>
       match (r_5.1 == (0 : Int)) with
       | true =>
        match (r_5.2.1 == (0 : Int)) with
        | true =>
         match f24v () with
         | .ret r_9 =>
          .ret r_9
         | .pan p_10 =>
          .pan p_10
         | .fail => .fail
        | false =>
         .ret false
       | false =>
        .ret false
      | false =>
       .ret false
     | false =>
      match f38v (x.1, (x.2.1, ())) with
      | .ret r_11 =>
       match (!r_11) with
       | true =>
        match (r_5.2.2.1 == (2 : Int)) with
        | true =>
         match (r_5.1 == (0 : Int)) with
         | true =>
          match (r_5.2.1 == (0 : Int)) with
          | true =>
           match f24v () with
           | .ret r_13 =>
            .ret r_13
           | .pan p_14 =>
            .pan p_14
           | .fail => .fail
          | false =>
           .ret false
         | false =>
          .ret false
        | false =>
         .ret false
       | false =>
        match f60v (x.1, (x.2.1, ())) with
        | .ret r_15 =>
         match (!r_15.2.2.1) with
         | true =>
          match (r_5.2.2.1 == (5 : Int)) with
          | true =>
           match (r_5.1 == (0 : Int)) with
           | true =>
            match (r_5.2.1 == (0 : Int)) with
            | true =>
             match f24v () with
             | .ret r_17 =>
              .ret r_17
             | .pan p_18 =>
              .pan p_18
             | .fail => .fail
            | false =>
             .ret false
           | false =>
            .ret false
          | false =>
           .ret false
         | false =>
          match (r_5.2.2.1 == (0 : Int)) with
          | true =>
           match (r_5.1 == r_15.1) with
           | true =>
            match (r_5.2.1 == r_15.2.1) with
            | true =>
             match f24v () with
             | .ret r_19 =>
              .ret r_19
             | .pan p_20 =>
              .pan p_20
             | .fail => .fail
            | false =>
             .ret false
           | false =>
            .ret false
          | false =>
           .ret false
        | .pan p_16 =>
         .pan p_16
        | .fail => .fail
      | .pan p_12 =>
       .pan p_12
      | .fail => .fail
    | .pan p_8 =>
     .pan p_8
    | .fail => .fail
   | .pan p_6 =>
    .pan p_6
   | .fail => .fail
theorem e14 (N : Nat) (x : (((List (Int × (Int × Unit))) × (Int × (Int × Unit))) × ((List Int) × Unit))) : vfn Tryz.prog (phi specs14) hints14 N Tryz.f14 false false ty0 .bool x = F14 N x := by
 kernel_rfl
noncomputable def f14 (x : (((List (Int × (Int × Unit))) × (Int × (Int × Unit))) × ((List Int) × Unit))) : Out Bool := F14 fuel x
noncomputable def sp14 : Spec := ⟨14, .call, ty0, .bool, false, false, f14⟩
theorem c14 : Contract Tryz.prog sp14 := contract_at (l := specs14) (arg := ty0) (res := .bool) (multi := false) (own := false) (F := f14) mixed (all_cons c33 (all_cons c24v (all_cons c59v (all_cons c34v (all_cons c38v (all_cons c60v all_nil)))))) Tryz.func14 rfl hints14 fun x _ => ⟨fuel, e14 fuel x⟩
end Go.V
