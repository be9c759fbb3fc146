/- A part of the proof of a law of the step table. -/
import Derived.Test.YtpnilbemlgbokaaGreatDoorS7k
set_option linter.all false
namespace Go.V
open Go.Proofs
noncomputable def specs19 : List Spec := [sp33, sp24v, sp67v, sp34v, sp68v, sp69v, sp70v]
def hints19 : List (Nat × List Nat) := []
noncomputable def F19 (N : Nat) (x : (((List (Int × (Int × Unit))) × (Int × (Int × Unit))) × Unit)) : Out Bool :=
 match (!(decide ((lenI x.1.1) ≤ (16 : Int)))) with
 | true =>
  match f24v () with
  | .ret r_1 =>
   .ret r_1
  | .pan p_2 =>
   .pan p_2
  | .fail => .fail
 | false =>
  match f67v (x.1, ()) with
  | .ret r_3 =>
   match f34v (x.1, ()) with
   | .ret r_5 =>
    match (!r_5) with
    | true =>
     match (r_3.2.1 == (2 : Int)) with
     | true =>
      match (r_3.1 == ([] : List UInt8)) with
      | true =>
       match f24v () with
       | .ret r_7 =>
        .ret r_7
       | .pan p_8 =>
        .pan p_8
       | .fail => .fail
      | false =>
       .ret false
     | false =>
      .ret false
    | false =>
     match f68v (r_3.1, ()) with
     | .ret r_9 =>
      match (r_3.2.1 == (0 : Int)) with
      | true =>
       match f69v (x.1, ()) with
       | .ret r_11 =>
        match (r_3.1 == r_11) with
        | true =>
         match (r_9.2.1 == (0 : Int)) with
         | true =>
          match f70v (r_9.1, (x.1, ())) with
          | .ret r_13 =>
           match r_13 with
           | true =>
            match f24v () with
            | .ret r_15 =>
             .ret r_15
            | .pan p_16 =>
             .pan p_16
            | .fail => .fail
           | false =>
            .ret false
          | .pan p_14 =>
           .pan p_14
          | .fail => .fail
         | false =>
          .ret false
        | false =>
         .ret false
       | .pan p_12 =>
        .pan p_12
       | .fail => .fail
      | false =>
       .ret false
     | .pan p_10 =>
      .pan p_10
     | .fail => .fail
   | .pan p_6 =>
    .pan p_6
   | .fail => .fail
  | .pan p_4 =>
   .pan p_4
  | .fail => .fail
theorem e19 (N : Nat) (x : (((List (Int × (Int × Unit))) × (Int × (Int × Unit))) × Unit)) : vfn Tryz.prog (phi specs19) hints19 N Tryz.f19 false false ty1 .bool x = F19 N x := by
 kernel_rfl
noncomputable def f19 (x : (((List (Int × (Int × Unit))) × (Int × (Int × Unit))) × Unit)) : Out Bool := F19 fuel x
noncomputable def sp19 : Spec := ⟨19, .call, ty1, .bool, false, false, f19⟩
theorem c19 : Contract Tryz.prog sp19 := contract_at (l := specs19) (arg := ty1) (res := .bool) (multi := false) (own := false) (F := f19) mixed (all_cons c33 (all_cons c24v (all_cons c67v (all_cons c34v (all_cons c68v (all_cons c69v (all_cons c70v all_nil))))))) Tryz.func19 rfl hints19 fun x _ => ⟨fuel, e19 fuel x⟩
end Go.V
