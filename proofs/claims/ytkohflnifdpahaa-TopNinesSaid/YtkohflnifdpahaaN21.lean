/- A part of the proof of TopNinesSaid: no condition beyond what each theorem says. -/
import Derived.Test.YtkohflnifdpahaaN20
set_option linter.all false
namespace Go.V
open Go.Proofs
theorem p56_step (sh:SHT) (n:Nat) {t t':Int} {r:List Int×Int×Unit} (h1:decide (t<lenI (List.getD sh.1 (0:Int).toNat ([]:List Int)))=true) (h2:f84 (sh,(t,())) = .ret r) (h3:rng t=true) (h4:IntKind.i64.wrap (t+(1:Int))=t'):P56 sh (n+1) t=P56 sh n t':=by
  show (match decide (t<lenI (List.getD sh.1 (0:Int).toNat ([]:List Int))) with
    | true=>match f84 (sh,(t,())) with
      | .ret _=>bif rng t then P56 sh n (IntKind.i64.wrap (t+(1:Int))) else .fail
      | _=>.fail
    | false=>.ret ())=_
  rw [h1,h2,h4]
  simp only [h3,cond_true]
theorem p112_step (sh:SHT) (n:Nat) {t t':Int} {lists:LLI} {r:List Int×Int×Unit} (h1:decide (t<lenI (List.getD sh.1 (0:Int).toNat ([]:List Int)))=true) (h2:f84 (sh,(t,())) = .ret r) (h3:fits lists ([r.1]:List (List Int))=true) (h4:IntKind.i64.wrap (t+(1:Int))=t'):P112 sh (n+1) lists t=P112 sh n (lists++[r.1]) t':=by
  show (match decide (t<lenI (List.getD sh.1 (0:Int).toNat ([]:List Int))) with
    | true=>match f84 (sh,(t,())) with
      | .ret r=>bif fits lists ([r.1]:List (List Int)) then P112 sh n (lists++([r.1]:List (List Int))) (IntKind.i64.wrap (t+(1:Int))) else .fail
      | _=>.fail
    | false=>bif mayMake (lenI (List.getD sh.1 (0:Int).toNat ([]:List Int))) then .ret (lenI (List.getD sh.1 (0:Int).toNat ([]:List Int)),lists,(zeros (.int .i64) (lenI (List.getD sh.1 (0:Int).toNat ([]:List Int))):List Int),()) else .fail)=_
  rw [h1,h2,h4]
  simp only [h3,cond_true]
theorem k56p:P56 A0 fuel 0 = .ret ():=by
  obtain ⟨n,hn⟩:=fuel_succ 5 (by decide)
  rw [hn]
  rw [p56_step A0 (n+4) (t':=1) (by decide) k84_0 (by decide) (by decide),p56_step A0 (n+3) (t':=2) (by decide) k84_1 (by decide) (by decide),p56_step A0 (n+2) (t':=3) (by decide) k84_2 (by decide) (by decide),p56_step A0 (n+1) (t':=4) (by decide) k84_3 (by decide) (by decide)]
  rfl
def L0:LLI:=[[-999,-132,-123,123,132,133,142,213,223,232,312],[-999,-45,45,54,55,123,132,145,405],[-999,-600,-160,-70,-60,-6,6,45,60,70,160,600],[-999,-60,-7,7,17,60,70,107]]
theorem k112p:P112 A0 fuel [] 0 = .ret (4,L0,[0,0,0,0],()):=by
  obtain ⟨n,hn⟩:=fuel_succ 5 (by decide)
  rw [hn]
  rw [p112_step A0 (n+4) (t':=1) (by decide) k84_0 (by decide) (by decide),p112_step A0 (n+3) (t':=2) (by decide) k84_1 (by decide) (by decide),p112_step A0 (n+2) (t':=3) (by decide) k84_2 (by decide) (by decide),p112_step A0 (n+1) (t':=4) (by decide) k84_3 (by decide) (by decide)]
  rfl
theorem kfrom:fromP L0 A0 fuel 3 [1,1] [0,0,0,0] = .ret ([[132,45,-60,7],[123,45,60,7]],[312,405,600,107]):=by kernel_rfl
theorem f56_is {sh:SHT} {z:Int×LLI×List Int×Unit} {r:List (List Int)×List Int} (h0:inb (0:Int) sh.1.length=true) (h1:P56 sh fuel 0 = .ret ()) (h2:P112 sh fuel [] 0 = .ret z) (h3:fromP z.2.1 sh fuel (IntKind.i64.wrap (z.1 - 1)) sh.2.1 z.2.2.1 = .ret r) (h4:((!z.2.2.1.isEmpty && r.1.all colOK) && (decide (r.1.length<999999999) && !r.1.isEmpty))=true):f56 (sh,(true,())) = .ret ((sh,r.1,(),(),()),0,()):=by
  unfold f56
  dsimp only
  rw [h0,h1,h2]
  simp only [cond_true]
  rw [h3]
  simp only [h4,cond_true]
theorem k56f:f56 (A0,(true,())) = .ret ((A0,[[132,45,-60,7],[123,45,60,7]],(),(),()),0,()):=f56_is (z:=(4,L0,[0,0,0,0],())) (by decide) k56p k112p kfrom (by decide)
theorem k58:f58a ([[132,45,-60,7],[123,45,60,7]],(Value.func (.func 23) #[] #[],())) = .ret [123,45,60,7]:=by kernel_rfl
theorem f27_is {x:SHT×Unit} {sh:SHT} {z:(SHT×LLI×Unit×Unit×Unit)×Int×Unit} {ys:LLI} {y:List Int} (hx:x.1=sh) (h1:f57 (sh,()) = .ret true) (h2:f56 (sh,(true,())) = .ret z) (h3:(z.2.1 != (0:Int))=false) (h4:z.1.2.1=ys) (h5:f58a (ys,((Value.func (.func 23) #[] #[]),())) = .ret y):f27 x = .ret (y,(0:Int),()):=by
  unfold f27 F27
  rw [hx,h1]
  dsimp only
  rw [h2]
  dsimp only
  rw [h3]
  dsimp only
  rw [h4,h5]
theorem k27:f27 (A0,()) = .ret ([123,45,60,7],0,()):=f27_is rfl k57 k56f (by decide) rfl k58
theorem k31:f31 ([123,45,60,7],([123,45,60,7],())) = .ret true:=by kernel_rfl
end Go.V
