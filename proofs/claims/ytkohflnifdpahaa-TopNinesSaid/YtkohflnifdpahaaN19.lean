/- A part of the proof of TopNinesSaid: no condition beyond what each theorem says. -/
import Derived.Test.YtkohflnifdpahaaN16
set_option linter.all false
namespace Go.V
open Go.Proofs
noncomputable def src108 (x v:Int):Out Bool :=
  match (v != x) with
  | true =>
    match f128 ((v,((0:Int),(true,()))),(x,())) with
    | .ret true=>.ret true
    | .ret false=>match f129 ((v,((0:Int),(true,()))),(x,())) with
      | .ret true=>.ret true
      | .ret false=>.ret (x==(IntKind.i64.wrap (0 - v)))
      | _=>.fail
    | _=>.fail
  | false=>.ret false
noncomputable def S108 (x:Int):Nat->List Int->Int->Out (List Int)
  | 0,_,_=>.fail
  | n+1,out,v=>match (decide (v<=(999:Int))) with
    | true=>match src108 x v with
      | .ret true=>bif (fits out ([v]:List Int)) then S108 x n (out++([v]:List Int)) (IntKind.i64.wrap (v+(1:Int))) else .fail
      | .ret false=>S108 x n out (IntKind.i64.wrap (v+(1:Int)))
      | _=>.fail
    | false=>.ret out
theorem l108_plain (N:Nat) (x:Int) (z:List Int):∀ (n:Nat) (out:List Int) (v:Int),S108 x n out v = .ret z->L108_0 N n (x,()) out v = .ret z:=by
  intro n
  induction n with
  | zero=>intro out v h;cases h
  | succ n ih =>
    intro out v h
    rw [L108_0_succ]
    unfold S108 src108 at h
    dsimp only at h ⊢
    cases h1:decide (v<=(999:Int)) with
    | false=>rw [h1] at h;exact h
    | true =>
      rw [h1] at h
      dsimp only at h ⊢
      cases h2:(v != x) with
      | false=>rw [h2] at h;exact ih _ _ h
      | true =>
        rw [h2] at h
        dsimp only at h ⊢
        cases h3:f128 ((v,((0:Int),(true,()))),(x,())) with
        | fail=>rw [h3] at h;cases h
        | pan p=>rw [h3] at h;cases h
        | ret b =>
          rw [h3] at h
          have fin:(bif (fits out ([v]:List Int)) then S108 x n (out++([v]:List Int)) (IntKind.i64.wrap (v+(1:Int))) else .fail) = .ret z->(bif (fits out ([v]:List Int)) then L108_0 N n (x,()) (out++([v]:List Int)) (IntKind.i64.wrap (v+(1:Int))) else .fail) = .ret z:=by
            intro h
            cases h5:fits out ([v]:List Int) with
            | false=>rw [h5] at h;cases h
            | true=>rw [h5] at h;exact ih _ _ h
          cases b with
          | true=>exact fin h
          | false =>
            dsimp only at h ⊢
            cases h4:f129 ((v,((0:Int),(true,()))),(x,())) with
            | fail=>rw [h4] at h;cases h
            | pan p=>rw [h4] at h;cases h
            | ret b =>
              rw [h4] at h
              cases b with
              | true=>exact fin h
              | false =>
                dsimp only at h ⊢
                cases h5:(x==(IntKind.i64.wrap (0 - v))) with
                | true=>rw [h5] at h;exact fin h
                | false=>rw [h5] at h;exact ih _ _ h
def A0:SHT:=([[123,45,-60,7],[132,45,60,7]],[1,1],())
theorem k108_123:f108 (123,()) = .ret [123,-123,132,133,213,223]:=l108_plain _ _ _ _ _ _ (show S108 123 fuel [123] (-999) = .ret [123,-123,132,133,213,223] by kernel_rfl)
theorem k108_132:f108 (132,()) = .ret [132,-132,123,142,232,312]:=l108_plain _ _ _ _ _ _ (show S108 132 fuel [132] (-999) = .ret [132,-132,123,142,232,312] by kernel_rfl)
theorem k108_45:f108 (45,()) = .ret [45,-45,54,55,145,405]:=l108_plain _ _ _ _ _ _ (show S108 45 fuel [45] (-999) = .ret [45,-45,54,55,145,405] by kernel_rfl)
theorem k108_m60:f108 ((-60),()) = .ret [-60,-600,-160,-70,-6,60]:=l108_plain _ _ _ _ _ _ (show S108 (-60) fuel [-60] (-999) = .ret [-60,-600,-160,-70,-6,60] by kernel_rfl)
theorem k108_60:f108 (60,()) = .ret [60,-60,6,70,160,600]:=l108_plain _ _ _ _ _ _ (show S108 60 fuel [60] (-999) = .ret [60,-60,6,70,160,600] by kernel_rfl)
theorem k108_7:f108 (7,()) = .ret [7,-7,17,70,107]:=l108_plain _ _ _ _ _ _ (show S108 7 fuel [7] (-999) = .ret [7,-7,17,70,107] by kernel_rfl)
theorem k57:f57 (A0,()) = .ret true:=by kernel_rfl
theorem k107_0:f107 (A0,(0,())) = .ret [123,132]:=by kernel_rfl
theorem k107_1:f107 (A0,(1,())) = .ret [45,45]:=by kernel_rfl
theorem k107_2:f107 (A0,(2,())) = .ret [-60,60]:=by kernel_rfl
theorem k107_3:f107 (A0,(3,())) = .ret [7,7]:=by kernel_rfl
end Go.V
