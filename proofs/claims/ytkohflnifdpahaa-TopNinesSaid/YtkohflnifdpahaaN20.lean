/- A part of the proof of TopNinesSaid: no condition beyond what each theorem says. -/
import Derived.Test.YtkohflnifdpahaaN19
set_option linter.all false
namespace Go.V
open Go.Proofs
theorem fuel_succ (k:Nat) (h:k<=1000):∃ n,fuel=n+k:=⟨fuel - k,by
  have:1000<=fuel:=by unfold fuel;decide
  omega⟩
theorem sort_is {xs zs:List Int} (h1:xs.Perm zs) (h2:zs.Pairwise (· <= ·)):(xs.mergeSort fun x y=>decide (x<=y))=zs:=by
  refine List.Perm.eq_of_pairwise (le:=(· <= ·)) ?_ ?_ h2 ((List.mergeSort_perm xs _).trans h1)
  . intro a b _ _ h3 h4;exact Int.le_antisymm h3 h4
  . have:=List.pairwise_mergeSort (le:=fun x y:Int=>decide (x<=y)) (by intro a b c;simp only [decide_eq_true_eq];exact Int.le_trans) (by intro a b;simp only [Bool.or_eq_true,decide_eq_true_eq];exact Int.le_total a b) xs
    exact this.imp fun h=>by simpa using h
noncomputable def P841:Nat->List Int->Int->Out (List Int×Int)
  | 0,_,_=>.fail
  | n+1,out,o=>match f109 (out,(o,())) with
    | .ret true=>P841 n out (IntKind.i64.wrap (o+(1:Int)))
    | .ret false=>bif (fits out ([o]:List Int)) then bif (decide (((out++([o]:List Int)):List Int).length<1000000000)) then .ret (out++[o],o) else .fail else .fail
    | _=>.fail
theorem l841 (N:Nat) {ys:List Int} {o':Int}:∀ (n:Nat) (out:List Int) (o:Int),P841 n out o = .ret (ys,o')->L84_1 N n out o = .ret ((),(sortC ys,(o',()))):=by
  intro n
  induction n with
  | zero=>intro out o h;cases h
  | succ n ih =>
    intro out o h
    rw [L84_1_succ]
    unfold P841 at h
    cases h1:f109 (out,(o,())) with
    | fail=>rw [h1] at h;cases h
    | pan p=>rw [h1] at h;cases h
    | ret b =>
      rw [h1] at h
      cases b with
      | true=>exact ih _ _ h
      | false =>
        dsimp only at h ⊢
        cases h2:(fits out ([o]:List Int)) with
        | false=>rw [h2] at h;cases h
        | true =>
          rw [h2] at h
          simp only [cond_true] at h ⊢
          cases h3:(decide (((out++([o]:List Int)):List Int).length<1000000000)) with
          | false=>rw [h3] at h;cases h
          | true=>rw [h3] at h;cases h;rfl
theorem l840_step (N n:Nat) (x:SHT×Int×Unit) {r out t12:List Int} {t t' v:Int} {z:List Int} (h1:decide (t<lenI r)=true) (h2:inb t t12.length=true) (h3:List.getD t12 t.toNat (0:Int)=v) (h4:f108 (v,()) = .ret z) (h5:fits out z=true) (h6:IntKind.i64.wrap (t+(1:Int))=t'):L84_0 N (n+1) x r out t12 t=L84_0 N n x r (out++z) t12 t':=by
  rw [L84_0_succ,h1,h2,h3,h4,h6]
  simp only [cond_true,h5]
theorem l840_end0 (N n:Nat) (x:SHT×Int×Unit) {r out t12:List Int} {t:Int} (h1:decide (t<lenI r)=false) (h2:decide (x.2.1 > (0:Int))=false):L84_0 N (n+1) x r out t12 t=L84_1 N N out (-999):=by
  rw [L84_0_succ,h1,h2]
theorem l840_end1 (N n:Nat) (x:SHT×Int×Unit) {r out t12 z:List Int} {t t':Int} (h1:decide (t<lenI r)=false) (h2:decide (x.2.1 > (0:Int))=true) (h3:IntKind.i64.wrap (x.2.1 - (1:Int))=t') (h4:f107 (x.1,(t',())) = .ret z) (h5:fits out z=true):L84_0 N (n+1) x r out t12 t=L84_1 N N (out++z) (-999):=by
  rw [L84_0_succ,h1,h2,h3,h4]
  simp only [h5,cond_true]
theorem k84_0:f84 (A0,(0,())) = .ret ([-999,-132,-123,123,132,133,142,213,223,232,312],-999,()):=by
  unfold f84 F84
  rw [show ((A0,(0,())):SHT×Int×Unit).1=A0 from rfl,show ((A0,(0,())):SHT×Int×Unit).2.1=0 from rfl,k107_0]
  obtain ⟨n,hn⟩:=fuel_succ 3 (by decide)
  dsimp only
  have e:L84_0 fuel fuel (A0,(0,())) [123,132] [] [123,132] 0 = .ret ((),([-999,-132,-123,123,132,133,142,213,223,232,312],(-999,()))):=by
    rw [show L84_0 fuel fuel (A0,(0,()))=L84_0 fuel (n+3) (A0,(0,())) by rw [<- hn]]
    rw [l840_step _ _ _ (t':=1) (v:=123) (by decide) (by decide) (by decide) k108_123 (by decide) (by decide),l840_step _ _ _ (t':=2) (v:=132) (by decide) (by decide) (by decide) k108_132 (by decide) (by decide)]
    rw [l840_end0 _ _ _ (by decide) (by decide)]
    show L84_1 fuel fuel [123,-123,132,133,213,223,132,-132,123,142,232,312] (-999)=_
    rw [l841 _ _ _ _ (show P841 fuel [123,-123,132,133,213,223,132,-132,123,142,232,312] (-999) = .ret ([123,-123,132,133,213,223,132,-132,123,142,232,312,-999],-999) by kernel_rfl)]
    have e1:=sort_is (xs:=[123,-123,132,133,213,223,132,-132,123,142,232,312,-999]) (zs:=[-999,-132,-123,123,123,132,132,133,142,213,223,232,312]) (by decide) (by decide)
    unfold sortC
    rw [e1,show Lib.compact ([-999,-132,-123,123,123,132,132,133,142,213,223,232,312]:List Int)=[-999,-132,-123,123,132,133,142,213,223,232,312] by kernel_rfl]
  rw [e]
  rfl
theorem k84_1:f84 (A0,(1,())) = .ret ([-999,-45,45,54,55,123,132,145,405],-999,()):=by
  unfold f84 F84
  rw [show ((A0,(1,())):SHT×Int×Unit).1=A0 from rfl,show ((A0,(1,())):SHT×Int×Unit).2.1=1 from rfl,k107_1]
  obtain ⟨n,hn⟩:=fuel_succ 3 (by decide)
  dsimp only
  have e:L84_0 fuel fuel (A0,(1,())) [45,45] [] [45,45] 0 = .ret ((),([-999,-45,45,54,55,123,132,145,405],(-999,()))):=by
    rw [show L84_0 fuel fuel (A0,(1,()))=L84_0 fuel (n+3) (A0,(1,())) by rw [<- hn]]
    rw [l840_step _ _ _ (t':=1) (v:=45) (by decide) (by decide) (by decide) k108_45 (by decide) (by decide),l840_step _ _ _ (t':=2) (v:=45) (by decide) (by decide) (by decide) k108_45 (by decide) (by decide)]
    rw [l840_end1 _ _ _ (t':=0) (by decide) (by decide) (by decide) k107_0 (by decide)]
    show L84_1 fuel fuel [45,-45,54,55,145,405,45,-45,54,55,145,405,123,132] (-999)=_
    rw [l841 _ _ _ _ (show P841 fuel [45,-45,54,55,145,405,45,-45,54,55,145,405,123,132] (-999) = .ret ([45,-45,54,55,145,405,45,-45,54,55,145,405,123,132,-999],-999) by kernel_rfl)]
    have e1:=sort_is (xs:=[45,-45,54,55,145,405,45,-45,54,55,145,405,123,132,-999]) (zs:=[-999,-45,-45,45,45,54,54,55,55,123,132,145,145,405,405]) (by decide) (by decide)
    unfold sortC
    rw [e1,show Lib.compact ([-999,-45,-45,45,45,54,54,55,55,123,132,145,145,405,405]:List Int)=[-999,-45,45,54,55,123,132,145,405] by kernel_rfl]
  rw [e]
  rfl
theorem k84_2:f84 (A0,(2,())) = .ret ([-999,-600,-160,-70,-60,-6,6,45,60,70,160,600],-999,()):=by
  unfold f84 F84
  rw [show ((A0,(2,())):SHT×Int×Unit).1=A0 from rfl,show ((A0,(2,())):SHT×Int×Unit).2.1=2 from rfl,k107_2]
  obtain ⟨n,hn⟩:=fuel_succ 3 (by decide)
  dsimp only
  have e:L84_0 fuel fuel (A0,(2,())) [-60,60] [] [-60,60] 0 = .ret ((),([-999,-600,-160,-70,-60,-6,6,45,60,70,160,600],(-999,()))):=by
    rw [show L84_0 fuel fuel (A0,(2,()))=L84_0 fuel (n+3) (A0,(2,())) by rw [<- hn]]
    rw [l840_step _ _ _ (t':=1) (v:=(-60)) (by decide) (by decide) (by decide) k108_m60 (by decide) (by decide),l840_step _ _ _ (t':=2) (v:=60) (by decide) (by decide) (by decide) k108_60 (by decide) (by decide)]
    rw [l840_end1 _ _ _ (t':=1) (by decide) (by decide) (by decide) k107_1 (by decide)]
    show L84_1 fuel fuel [-60,-600,-160,-70,-6,60,60,-60,6,70,160,600,45,45] (-999)=_
    rw [l841 _ _ _ _ (show P841 fuel [-60,-600,-160,-70,-6,60,60,-60,6,70,160,600,45,45] (-999) = .ret ([-60,-600,-160,-70,-6,60,60,-60,6,70,160,600,45,45,-999],-999) by kernel_rfl)]
    have e1:=sort_is (xs:=[-60,-600,-160,-70,-6,60,60,-60,6,70,160,600,45,45,-999]) (zs:=[-999,-600,-160,-70,-60,-60,-6,6,45,45,60,60,70,160,600]) (by decide) (by decide)
    unfold sortC
    rw [e1,show Lib.compact ([-999,-600,-160,-70,-60,-60,-6,6,45,45,60,60,70,160,600]:List Int)=[-999,-600,-160,-70,-60,-6,6,45,60,70,160,600] by kernel_rfl]
  rw [e]
  rfl
theorem k84_3:f84 (A0,(3,())) = .ret ([-999,-60,-7,7,17,60,70,107],-999,()):=by
  unfold f84 F84
  rw [show ((A0,(3,())):SHT×Int×Unit).1=A0 from rfl,show ((A0,(3,())):SHT×Int×Unit).2.1=3 from rfl,k107_3]
  obtain ⟨n,hn⟩:=fuel_succ 3 (by decide)
  dsimp only
  have e:L84_0 fuel fuel (A0,(3,())) [7,7] [] [7,7] 0 = .ret ((),([-999,-60,-7,7,17,60,70,107],(-999,()))):=by
    rw [show L84_0 fuel fuel (A0,(3,()))=L84_0 fuel (n+3) (A0,(3,())) by rw [<- hn]]
    rw [l840_step _ _ _ (t':=1) (v:=7) (by decide) (by decide) (by decide) k108_7 (by decide) (by decide),l840_step _ _ _ (t':=2) (v:=7) (by decide) (by decide) (by decide) k108_7 (by decide) (by decide)]
    rw [l840_end1 _ _ _ (t':=2) (by decide) (by decide) (by decide) k107_2 (by decide)]
    show L84_1 fuel fuel [7,-7,17,70,107,7,-7,17,70,107,-60,60] (-999)=_
    rw [l841 _ _ _ _ (show P841 fuel [7,-7,17,70,107,7,-7,17,70,107,-60,60] (-999) = .ret ([7,-7,17,70,107,7,-7,17,70,107,-60,60,-999],-999) by kernel_rfl)]
    have e1:=sort_is (xs:=[7,-7,17,70,107,7,-7,17,70,107,-60,60,-999]) (zs:=[-999,-60,-7,-7,7,7,17,17,60,70,70,107,107]) (by decide) (by decide)
    unfold sortC
    rw [e1,show Lib.compact ([-999,-60,-7,-7,7,7,17,17,60,70,70,107,107]:List Int)=[-999,-60,-7,7,17,60,70,107] by kernel_rfl]
  rw [e]
  rfl
end Go.V
