/- What law 5 of the copies needs beyond what all laws need: functions read, and the plain law. -/
import Derived.Test.YtmkbnifehdhbbabGreatDoorQL
import Derived.Test.YtmkbnifehdhbbabGreatDoorCR2
import Derived.Test.YtmkbnifehdhbbabGreatDoorCRA
set_option linter.all false
noncomputable section
namespace Go.V
open Go.Proofs
def specs13:List Spec:=[]
def hints13:List (Nat×List Nat):=[(2,[1,3])]
def L13_0 (N:Nat) (n_L13_0:Nat) (x:lt1) (i_1:Int):Out Bool :=
 vloop Tryz.prog (phi specs13) hints13 N Tryz.f12 false false .bool [.at 1,.at 0,.at 1,.at 0] n_L13_0 [U,.box [.d (.int .i64) x.1.1,.d ty0 x.1.2.1],U,.d (.int .i64) i_1,U,U,U,U,U,U,U,U,U,U,U,U,U,U,U,U,U,U,U,U,U,U,U]
theorem L13_0_succ (N:Nat) (n_L13_0:Nat) (x:lt1) (i_1:Int):L13_0 N  (n_L13_0+1) x i_1 =
 (match (decide (i_1<(lenI x.1.2.1))) with|true=>(match (decide (i_1<10)) with|true=>bif (inb i_1 x.1.2.1.length) then match (decide ((lenI ((List.getD x.1.2.1 i_1.toNat (0,([],())))).2.1) > 5)) with|true=>.ret false|false=>L13_0 N n_L13_0 x (IntKind.i64.wrap (i_1+1)) else .fail|false=>.ret (decide ((lenI x.1.2.1)<=10)))|false=>.ret (decide ((lenI x.1.2.1)<=10)):Out Bool):=by kernel_rfl
def F13 (N:Nat) (x:lt1):Out Bool:=L13_0 N N x 0
theorem e13 (N:Nat) (x:lt1):vfn Tryz.prog (phi specs13) hints13 N Tryz.f12 false false ty2 .bool x=F13 N x:=by kernel_rfl
def f13 (x:lt1):Out Bool:=F13 fuel x
def sp13:Spec:=⟨12,.call,ty2,.bool,false,false,f13⟩
theorem c13:Contract Tryz.prog sp13:=contract_at (l:=specs13) (arg:=ty2) (res:=.bool) (multi:=false) (own:=false) (F:=f13) mixed all_nil Tryz.func12 rfl hints13 fun x _=>⟨fuel,e13 fuel x⟩
def specs31:List Spec:=[]
def hints31:List (Nat×List Nat):=[(2,[0,3])]
def L31_0 (N:Nat) (n_L31_0:Nat) (x:((List (List Int))×Unit)) (i_1:Int):Out Bool :=
 vloop Tryz.prog (phi specs31) hints31 N Tryz.f23 false false .bool [.at 1,.at 0,.at 1,.at 0] n_L31_0 [.d ty1 x.1,U,U,.d (.int .i64) i_1,U,U,U,U,U,U,U,U,U,U,U,U,U,U,U,U,U,U,U]
theorem L31_0_succ (N:Nat) (n_L31_0:Nat) (x:((List (List Int))×Unit)) (i_1:Int):L31_0 N  (n_L31_0+1) x i_1 =
 (match (decide (i_1<(lenI x.1))) with|true=>(match (decide (i_1<12)) with|true=>bif (inb i_1 x.1.length) then match (decide ((lenI (List.getD x.1 i_1.toNat [])) > 5)) with|true=>.ret false|false=>L31_0 N n_L31_0 x (IntKind.i64.wrap (i_1+1)) else .fail|false=>.ret (decide ((lenI x.1)<=10)))|false=>.ret (decide ((lenI x.1)<=10)):Out Bool):=by kernel_rfl
def F31 (N:Nat) (x:((List (List Int))×Unit)):Out Bool:=L31_0 N N x 0
theorem e31 (N:Nat) (x:((List (List Int))×Unit)):vfn Tryz.prog (phi specs31) hints31 N Tryz.f23 false false (.prod (.list (.list (.int .i64))) .unit) .bool x=F31 N x:=by kernel_rfl
def f31 (x:((List (List Int))×Unit)):Out Bool:=F31 fuel x
def sp31:Spec:=⟨23,.call,(.prod (.list (.list (.int .i64))) .unit),.bool,false,false,f31⟩
theorem c31:Contract Tryz.prog sp31:=contract_at (l:=specs31) (arg:=(.prod (.list (.list (.int .i64))) .unit)) (res:=.bool) (multi:=false) (own:=false) (F:=f31) mixed all_nil Tryz.func23 rfl hints31 fun x _=>⟨fuel,e31 fuel x⟩
def specs61:List Spec:=[]
def hints61:List (Nat×List Nat):=[]
theorem e61 (N:Nat) (x:(Int×(Int×(Int×Unit)))):vfn Tryz.prog (phi specs61) hints61 N Tryz.f60 false false ty10 .bool x=F61 N x:=by kernel_rfl
theorem c61:Contract Tryz.prog sp61:=contract_at (l:=specs61) (arg:=ty10) (res:=.bool) (multi:=false) (own:=false) (F:=f61) mixed all_nil Tryz.func60 rfl hints61 fun x _=>⟨fuel,e61 fuel x⟩
def specs46:List Spec:=[sp61]
def hints46:List (Nat×List Nat):=[]
theorem e46 (N:Nat) (x:(Int×Unit)):vfn Tryz.prog (phi specs46) hints46 N Tryz.f31 false false (.prod (.int .i64) .unit) .bool x=F46 N x:=by kernel_rfl
theorem c46:Contract Tryz.prog sp46:=contract_at (l:=specs46) (arg:=(.prod (.int .i64) .unit)) (res:=.bool) (multi:=false) (own:=false) (F:=f46) mixed (all_cons c61 all_nil) Tryz.func31 rfl hints46 fun x _=>⟨fuel,e46 fuel x⟩
theorem e17 (N:Nat) (x:lt1):vfn Tryz.prog (phi specs17) hints17 N Tryz.f15 false false ty2 .bool x=F17 N x:=by kernel_rfl
def sp17:Spec:=⟨15,.call,ty2,.bool,false,false,f17⟩
theorem c17:Contract Tryz.prog sp17:=contract_at (l:=specs17) (arg:=ty2) (res:=.bool) (multi:=false) (own:=false) (F:=f17) mixed (all_cons c61 (all_cons c46 all_nil)) Tryz.func15 rfl hints17 fun x _=>⟨fuel,e17 fuel x⟩
theorem e32 (N:Nat) (x:lt3):vfn Tryz.prog (phi specs32) hints32 N Tryz.f25 false false ty4 .bool x=F32 N x:=by kernel_rfl
def sp32:Spec:=⟨25,.call,ty4,.bool,false,false,f32⟩
theorem c32:Contract Tryz.prog sp32:=contract_at (l:=specs32) (arg:=ty4) (res:=.bool) (multi:=false) (own:=false) (F:=f32) mixed (all_cons c46 all_nil) Tryz.func25 rfl hints32 fun x _=>⟨fuel,e32 fuel x⟩
end Go.V
namespace Go.V
open Go.Proofs
theorem f13_at (t:TREE):∃ b,f13 (t,()) = .ret b:=by
 have hfb:=fuel_big;unfold f13 F13;have done:∀ n i:Nat,¬ (i:Int)<t.2.1.length\/¬ i<10->∃ b,L13_0 fuel (n+1) (t,()) i = .ret b:=fun n i h=>by
  rw [L13_0_succ]
  try delta lenI
  by_cases h1:(i:Int)<t.2.1.length
  . have h2:¬ (i:Int)<10:=by rcases h with h|h<;>omega
    simp only [dT h1,dF h2];exact ⟨_,rfl⟩
  . simp only [dF h1];exact ⟨_,rfl⟩
 have loop:∀ (d n i:Nat),d<n->i+d=10->∃ b,L13_0 fuel n (t,()) i = .ret b:=by
  intro d
  induction d with
  | zero =>
   intro n i hn hi;obtain ⟨n,rfl⟩:=succ_of hn;exact done n i (.inr (by omega))
  | succ d ih =>
   intro n i hn hi;obtain ⟨n,rfl⟩:=succ_of hn
   by_cases h1:(i:Int)<t.2.1.length
   . rw [L13_0_succ]
     try delta lenI
     simp only [dT h1,dT (show (i:Int)<10 by omega),inbT (show (0:Int)<=i by omega) h1,cond_true,wn (show i<1000000000 by omega)];split
     . exact ⟨_,rfl⟩
     . exact ih n (i+1) (by omega) (by omega)
   . exact done n i (.inl h1)
 exact loop 10 fuel 0 (by omega) (by omega)
end Go.V
namespace Go.V
open Go.Proofs
theorem TreeOK.t17 {t:TREE} (h:TreeOK t):f17 (t,()) = .ret true:=by
 rcases tree_ret (t:=t) with ⟨_,h1,_⟩|⟨h1,_⟩
 . exact h1
 . exact absurd h h1
theorem no17 {t:TREE} (h:¬ TreeOK t):f17 (t,()) = .ret false:=by
 rcases tree_ret (t:=t) with ⟨h1,_⟩|⟨_,h1,_⟩
 . exact absurd h1 h
 . exact h1
theorem f31_at (s:List (List Int)):∃ b,f31 (s,()) = .ret b:=by
 have hfb:=fuel_big;unfold f31 F31;have done:∀ n i:Nat,¬ (i:Int)<s.length\/¬ i<12->∃ b,L31_0 fuel (n+1) (s,()) i = .ret b:=fun n i h=>by
  rw [L31_0_succ]
  try delta lenI
  by_cases h1:(i:Int)<s.length
  . have h2:¬ (i:Int)<12:=by rcases h with h|h<;>omega
    simp only [dT h1,dF h2];exact ⟨_,rfl⟩
  . simp only [dF h1];exact ⟨_,rfl⟩
 have loop:∀ (d n i:Nat),d<n->i+d=12->∃ b,L31_0 fuel n (s,()) i = .ret b:=by
  intro d
  induction d with
  | zero =>
   intro n i hn hi;obtain ⟨n,rfl⟩:=succ_of hn;exact done n i (.inr (by omega))
  | succ d ih =>
   intro n i hn hi;obtain ⟨n,rfl⟩:=succ_of hn
   by_cases h1:(i:Int)<s.length
   . rw [L31_0_succ]
     try delta lenI
     simp only [dT h1,dT (show (i:Int)<12 by omega),inbT (show (0:Int)<=i by omega) h1,cond_true,wn (show i<1000000000 by omega)];split
     . exact ⟨_,rfl⟩
     . exact ih n (i+1) (by omega) (by omega)
   . exact done n i (.inl h1)
 exact loop 12 fuel 0 (by omega) (by omega)
end Go.V
namespace Go.V
open Go.Proofs
theorem runL1 {ρ:Type} {L:Nat->Nat->Out ρ} {len lo:Nat} {K:Out ρ} (step:∀ n i:Nat,lo<=i->i<len->L (n+1) i=L n (i+1)) (done:∀ n,L (n+1) len=K):∀ (m n i:Nat),lo<=i->m<n->i+m=len->L n i=K
 | 0,n,i,h0,h1,h2=>by
  obtain ⟨n,rfl⟩:=succ_of h1;rw [show i=len by omega,done]
 | m+1,n,i,h0,h1,h2=>by
  obtain ⟨n,rfl⟩:=succ_of (show 0<n by omega);rw [step n i h0 (by omega),runL1 step done m n (i+1) (by omega) (by omega) (by omega)]
end Go.V
namespace Go.V
open Go.Proofs
theorem f51_no {t:TREE} {s:List (List Int)} {l:List Int} (hl:l.length<1000000) (h:¬ (TreeOK t/\StoryOK t s/\HandsOK t l)):f51 (t,(s,(l,()))) = .ret ([],(2,())):=by
 unfold f51 F51;rcases tree_ret (t:=t) with ⟨ht,_,h2⟩|⟨h1,_,h2⟩
 . rcases story_ret ht s with ⟨hs,_,h3⟩|⟨_,_,h3⟩
   . obtain ⟨b,h5,h4⟩:=f85_big ht l hl;cases b with
     | true=>exact absurd ⟨ht,hs,h4.1 rfl⟩ h
     | false =>
      simp only [h2,Bool.not_true,h3,h5,Bool.not_false];rfl
   . simp only [h2,Bool.not_true,h3,Bool.not_false];rfl
 . simp only [h2,Bool.not_false];rfl
end Go.V
namespace Go.V
open Go.Proofs
@[irreducible] def f13v:lt1->Out Bool:=veil f13
theorem f13v_eq:f13v=f13:=by unfold f13v;exact veil_eq f13
def sp13v:Spec:=⟨12,.call,ty2,.bool,false,false,f13v⟩
theorem c13v:Contract Tryz.prog sp13v:=by
 unfold sp13v
 rw [f13v_eq]
 exact c13
@[irreducible] def f17v:lt1->Out Bool:=veil f17
theorem f17v_eq:f17v=f17:=by unfold f17v;exact veil_eq f17
def sp17v:Spec:=⟨15,.call,ty2,.bool,false,false,f17v⟩
theorem c17v:Contract Tryz.prog sp17v:=by
 unfold sp17v
 rw [f17v_eq]
 exact c17
@[irreducible] def f31v:((List (List Int))×Unit)->Out Bool:=veil f31
theorem f31v_eq:f31v=f31:=by unfold f31v;exact veil_eq f31
def sp31v:Spec:=⟨23,.call,(.prod (.list (.list (.int .i64))) .unit),.bool,false,false,f31v⟩
theorem c31v:Contract Tryz.prog sp31v:=by
 unfold sp31v
 rw [f31v_eq]
 exact c31
@[irreducible] def f32v:lt3->Out Bool:=veil f32
theorem f32v_eq:f32v=f32:=by unfold f32v;exact veil_eq f32
def sp32v:Spec:=⟨25,.call,ty4,.bool,false,false,f32v⟩
theorem c32v:Contract Tryz.prog sp32v:=by
 unfold sp32v
 rw [f32v_eq]
 exact c32
end Go.V
namespace Go.V
open Go.Proofs
theorem b22:((2:Int)==2)=true:=rfl
theorem b00:((0:Int)==0)=true:=rfl
theorem bl0:(lenI ([]:List Int)==(0:Int))=true:=rfl
theorem nt:(!true)=false:=rfl
theorem nf:(!false)=true:=rfl
theorem TreeOK.small {t:TREE} (h:TreeOK t):t.2.1.length<1000000:=by have:=h.copies;omega
end Go.V
namespace Go.V
open Go.Proofs
def specs16n:List Spec:=[sp61]
def hints16n:List (Nat×List Nat):=[(2,[1,2,5])]
def L16n_0 (N:Nat) (n_L16n_0:Nat) (x:lt15) (i_1:Int):Out Bool :=
 vloop Tryz.prog (phi specs16n) hints16n N Tryz.f16 false false .bool [.at 1,.at 0,.at 1,.at 0] n_L16n_0 [U,.d (.list (.int .i64)) x.2.1,.box [.d (.int .i64) x.1.1,.d ty0 x.1.2.1],U,U,.d (.int .i64) i_1,U,U,U,U,U,U,U,U,U,U,U,U,U,U,U,U,U,U,U,U,U,U,U,U,U,U,U,U,U,U,U,U]
theorem L16n_0_succ (N:Nat) (n_L16n_0:Nat) (x:lt15) (i_1:Int):L16n_0 N  (n_L16n_0+1) x i_1 =
 (match (decide (i_1<(lenI x.2.1))) with|true=>bif (inb i_1 x.2.1.length) then match f61 ((List.getD x.2.1 i_1.toNat 0),(1,((IntKind.i64.wrap ((lenI x.1.2.1) - 1)),()))) with | .ret r_2=>(match (!r_2) with|true=>.ret false|false=>match (decide (i_1 > 0)) with|true=>bif (inb i_1 x.2.1.length) then bif (inb (IntKind.i64.wrap (i_1 - 1)) x.2.1.length) then match (decide ((List.getD x.2.1 i_1.toNat 0)<=(List.getD x.2.1 (IntKind.i64.wrap (i_1 - 1)).toNat 0))) with|true=>.ret false|false=>L16n_0 N n_L16n_0 x (IntKind.i64.wrap (i_1+1)) else .fail else .fail|false=>L16n_0 N n_L16n_0 x (IntKind.i64.wrap (i_1+1))) | .pan p=>.pan p | .fail=>.fail else .fail|false=>.ret true:Out Bool):=by kernel_rfl
def F16n (N:Nat) (x:lt15):Out Bool:=L16n_0 N N x 0
theorem e16n (N:Nat) (x:lt15):vfn Tryz.prog (phi specs16n) hints16n N Tryz.f16 false false ty23 .bool x=F16n N x:=by kernel_rfl
def f16n (x:lt15):Out Bool:=F16n fuel x
def sp16n:Spec:=⟨16,.call,ty23,.bool,false,false,f16n⟩
theorem c16n:Contract Tryz.prog sp16n:=contract_at (l:=specs16n) (arg:=ty23) (res:=.bool) (multi:=false) (own:=false) (F:=f16n) mixed (all_cons c61 all_nil) Tryz.func16 rfl hints16n fun x _=>⟨fuel,e16n fuel x⟩
def specs70n (g:((Int×((List (Int×((List Int)×Unit)))×Unit))×((List (List Int))×(Int×(Int×Unit))))->Out Bool):List Spec:=[sp19,⟨70,.call,(.prod (.prod (.int .i64) (.prod (.list (.prod (.int .i64) (.prod (.list (.int .i64)) .unit))) .unit)) (.prod (.list (.list (.int .i64))) (.prod (.int .i64) (.prod (.int .i64) .unit)))),.bool,false,false,g⟩]
def hints70n:List (Nat×List Nat):=[]
def F70n (g:((Int×((List (Int×((List Int)×Unit)))×Unit))×((List (List Int))×(Int×(Int×Unit))))->Out Bool) (N:Nat) (x:((Int×((List (Int×((List Int)×Unit)))×Unit))×((List (List Int))×(Int×(Int×Unit))))):Out Bool:=bif (inb x.2.2.1 x.2.1.length) then bif (inb 0 x.2.1.length) then match f19 ((List.getD x.2.1 x.2.2.1.toNat []),((List.getD x.2.1 (0:Int).toNat []),())) with | .ret r_1=>(match r_1 with|true=>.ret false|false=>match (x.2.2.1==x.2.2.2.1) with|true=>.ret true|false=>bif (inb x.2.2.1 x.1.2.1.length) then match g (x.1,(x.2.1,(((List.getD x.1.2.1 x.2.2.1.toNat (0,([],())))).1,(x.2.2.2.1,())))) with | .ret r=>.ret r | .pan p=>.pan p | .fail=>.fail else .fail) | .pan p=>.pan p | .fail=>.fail else .fail else .fail
theorem e70n (g:((Int×((List (Int×((List Int)×Unit)))×Unit))×((List (List Int))×(Int×(Int×Unit))))->Out Bool) (N:Nat) (x:((Int×((List (Int×((List Int)×Unit)))×Unit))×((List (List Int))×(Int×(Int×Unit))))):vfn Tryz.prog (phi (specs70n g)) hints70n N Tryz.f70 false false (.prod (.prod (.int .i64) (.prod (.list (.prod (.int .i64) (.prod (.list (.int .i64)) .unit))) .unit)) (.prod (.list (.list (.int .i64))) (.prod (.int .i64) (.prod (.int .i64) .unit)))) .bool x=F70n g N x:=by kernel_rfl
def f70nr:Nat->((Int×((List (Int×((List Int)×Unit)))×Unit))×((List (List Int))×(Int×(Int×Unit))))->Out Bool
 | 0,_=>.fail
 | m+1,x=>F70n (f70nr m) fuel x
theorem c70nr:∀ m,Contract Tryz.prog ⟨70,.call,(.prod (.prod (.int .i64) (.prod (.list (.prod (.int .i64) (.prod (.list (.int .i64)) .unit))) .unit)) (.prod (.list (.list (.int .i64))) (.prod (.int .i64) (.prod (.int .i64) .unit)))),.bool,false,false,f70nr m⟩
 | 0=>fun _ _ _ _ _ _ _=>trivial
 | m+1=>contract_at (l:=specs70n (f70nr m)) (arg:=(.prod (.prod (.int .i64) (.prod (.list (.prod (.int .i64) (.prod (.list (.int .i64)) .unit))) .unit)) (.prod (.list (.list (.int .i64))) (.prod (.int .i64) (.prod (.int .i64) .unit))))) (res:=.bool) (multi:=false) (own:=false) (F:=f70nr (m+1)) mixed (all_cons c19 (all_cons (c70nr m) all_nil)) Tryz.func70 rfl hints70n fun x _=>⟨fuel,e70n (f70nr m) fuel x⟩
def f70n (x:((Int×((List (Int×((List Int)×Unit)))×Unit))×((List (List Int))×(Int×(Int×Unit))))):Out Bool:=f70nr fuel x
def sp70n:Spec:=⟨70,.call,(.prod (.prod (.int .i64) (.prod (.list (.prod (.int .i64) (.prod (.list (.int .i64)) .unit))) .unit)) (.prod (.list (.list (.int .i64))) (.prod (.int .i64) (.prod (.int .i64) .unit)))),.bool,false,false,f70n⟩
theorem c70n:Contract Tryz.prog sp70n:=c70nr fuel
def specs26n:List Spec:=[sp70n]
def hints26n:List (Nat×List Nat):=[(3,[1,2,3,7,8]),(7,[1,2,3,7,8,9,10])]
def L26n_1 (N:Nat) (n_L26n_0:Nat) (n_L26n_1:Nat) (x:lt10) (i_2:Int) (out_3:(List Int)) (met_4:Bool) (k_5:Int):Out (List Int) :=
 vloop Tryz.prog (phi specs26n) hints26n N Tryz.f26 false true (.list (.int .i64)) [.at 1,.at 1,.at 0,.at 1,.at 0,.at n_L26n_0,.at 1,.at 0,.at 0,.at 1,.at 0,.at 1,.at 0] n_L26n_1 [U,.d ty1 x.2.1,.d (.list (.int .i64)) x.2.2.1,.box [.d (.int .i64) x.1.1,.d ty0 x.1.2.1],U,U,U,.own (.int .i64) out_3 false,.d (.int .i64) i_2,.d .bool met_4,.d (.int .i64) k_5,U,U,U,U,U,U,U,U,U,U,U,U,U,U,U,U,U,U,U,U,U,U,U,U,U,U,U,U,U,U]
def L26n_0 (N:Nat) (n_L26n_0:Nat) (x:lt10) (out_1:(List Int)) (i_2:Int):Out (List Int) :=
 vloop Tryz.prog (phi specs26n) hints26n N Tryz.f26 false true (.list (.int .i64)) [.at 1,.at 1,.at 0,.at 1,.at 0] n_L26n_0 [U,.d ty1 x.2.1,.d (.list (.int .i64)) x.2.2.1,.box [.d (.int .i64) x.1.1,.d ty0 x.1.2.1],U,U,U,.own (.int .i64) out_1 false,.d (.int .i64) i_2,U,U,U,U,U,U,U,U,U,U,U,U,U,U,U,U,U,U,U,U,U,U,U,U,U,U,U,U,U,U,U,U]
theorem L26n_1_succ (N:Nat) (n_L26n_0:Nat) (n_L26n_1:Nat) (x:lt10) (i_2:Int) (out_3:(List Int)) (met_4:Bool) (k_5:Int):L26n_1 N n_L26n_0 (n_L26n_1+1) x i_2 out_3 met_4 k_5 =
 (match (decide (k_5<(lenI x.2.2.1))) with|true=>(match met_4 with|true=>L26n_1 N n_L26n_0 n_L26n_1 x i_2 out_3 true (IntKind.i64.wrap (k_5+1))|false=>bif (inb k_5 x.2.2.1.length) then match f70n (x.1,(x.2.1,((List.getD x.2.2.1 k_5.toNat 0),(i_2,())))) with | .ret r_6=>L26n_1 N n_L26n_0 n_L26n_1 x i_2 out_3 r_6 (IntKind.i64.wrap (k_5+1)) | .pan p=>.pan p | .fail=>.fail else .fail)|false=>match met_4 with|true=>bif (fits out_3 ([i_2]:List Int)) then L26n_0 N n_L26n_0 x (out_3++([i_2]:List Int)) (IntKind.i64.wrap (i_2+1)) else .fail|false=>L26n_0 N n_L26n_0 x out_3 (IntKind.i64.wrap (i_2+1)):Out (List Int)):=by kernel_rfl
theorem L26n_0_succ (N:Nat) (n_L26n_0:Nat) (x:lt10) (out_1:(List Int)) (i_2:Int):L26n_0 N  (n_L26n_0+1) x out_1 i_2 =
 (match (decide (i_2<(lenI x.1.2.1))) with|true=>L26n_1 N n_L26n_0 N x i_2 out_1 false 0|false=>.ret out_1:Out (List Int)):=by kernel_rfl
def F26n (N:Nat) (x:lt10):Out (List Int):=L26n_0 N N x [] 1
theorem e26n (N:Nat) (x:lt10):vfn Tryz.prog (phi specs26n) hints26n N Tryz.f26 false true ty29 (.list (.int .i64)) x=F26n N x:=by kernel_rfl
def f26n (x:lt10):Out (List Int):=F26n fuel x
def sp26n:Spec:=⟨26,.call,ty29,(.list (.int .i64)),false,true,f26n⟩
theorem c26n:Contract Tryz.prog sp26n:=contract_at (l:=specs26n) (arg:=ty29) (res:=(.list (.int .i64))) (multi:=false) (own:=true) (F:=f26n) mixed (all_cons c70n all_nil) Tryz.func26 rfl hints26n fun x _=>⟨fuel,e26n fuel x⟩
end Go.V
namespace Go.V
open Go.Proofs
@[irreducible] def f16nv:lt15->Out Bool:=veil f16n
theorem f16nv_eq:f16nv=f16n:=by unfold f16nv;exact veil_eq f16n
def sp16nv:Spec:=⟨16,.call,ty23,.bool,false,false,f16nv⟩
theorem c16nv:Contract Tryz.prog sp16nv:=by
 unfold sp16nv
 rw [f16nv_eq]
 exact c16n
@[irreducible] def f26nv:lt10->Out (List Int):=veil f26n
theorem f26nv_eq:f26nv=f26n:=by unfold f26nv;exact veil_eq f26n
def sp26nv:Spec:=⟨26,.call,ty29,(.list (.int .i64)),false,true,f26nv⟩
theorem c26nv:Contract Tryz.prog sp26nv:=by
 unfold sp26nv
 rw [f26nv_eq]
 exact c26n
end Go.V
namespace Go.V
open Go.Proofs
theorem f16n_big {t:TREE} (ht:TreeOK t) (l:List Int) (hl:l.length<1000000):∃ b,f16n (t,(l,())) = .ret b/\(b=true<->HandsOK t l):=by
 have hfb:=fuel_big;have hcc:=ht.copies;unfold f16n F16n;have key:=findL (L:=fun n i=>L16n_0 fuel n (t,(l,())) i) (len:=l.length) (K:=.ret true) (fun i=>¬ HandAt t l i) (fun _=>.ret false) (fun n i hi=>?_) (fun n=>?_) l.length fuel 0 (by omega) (by omega)
 . rcases key with ⟨j,h1,h2,h3,h4,h5⟩|⟨h1,h2⟩
   . exact ⟨false,h5,⟨fun h=>(by cases h),fun h=>absurd (h j h2) h3⟩⟩
   . exact ⟨true,h2,⟨fun _=>not_all h1,fun _=>rfl⟩⟩
 . try dsimp only
   rw [L16n_0_succ]
   try delta lenI
   have ew:IntKind.i64.wrap ((t.2.1.length:Int) - 1)=(t.2.1.length:Int) - 1:=wr (by omega) (by omega);simp only [dT (show (i:Int)<l.length by omega),inbT (show (0:Int)<=i by omega) (show (i:Int)<l.length by omega),cond_true,Int.toNat_natCast,i61,ew,wn (show i<1000000000 by omega)]
   by_cases g1:1<=l.getD i 0/\l.getD i 0<=(t.2.1.length:Int) - 1
   rotate_left
   . simp only [dF g1,Bool.not_false];exact .inl ⟨fun h=>g1 ⟨h.lo,by have:=h.hi;omega⟩,trivial⟩
   simp only [dT g1,Bool.not_true]
   by_cases g3:0<i
   . have ei:IntKind.i64.wrap ((i:Int) - 1)=((i - 1:Nat):Int):=by rw [wr (by omega) (by omega)];omega
     simp only [dT (show (i:Int) > 0 by omega),ei,inbT (show (0:Int)<=((i - 1:Nat):Int) by omega) (show ((i - 1:Nat):Int)<l.length by omega),cond_true,Int.toNat_natCast]
     by_cases g4:l.getD i 0<=l.getD (i - 1) 0
     . simp only [dT g4];exact .inl ⟨fun h=>(by have:=h.up g3;omega),trivial⟩
     . simp only [dF g4];exact .inr ⟨fun h=>h ⟨g1.1,by omega,fun _=>by omega⟩,trivial⟩
   . simp only [dF (show ¬ (i:Int) > 0 by omega)];exact .inr ⟨fun h=>h ⟨g1.1,by omega,fun h2=>absurd h2 g3⟩,trivial⟩
 . try dsimp only
   rw [L16n_0_succ]
   try delta lenI
   simp only [dF (show ¬ ((l.length:Nat):Int)<l.length by omega)]
theorem f16n_yes {t:TREE} (ht:TreeOK t) {l:List Int} (h:HandsOK t l):f16n (t,(l,())) = .ret true:=by
 have hl:=hands_len h;have hs:=ht.small;obtain ⟨b,e1,e2⟩:=f16n_big ht l (by omega);rw [e1,e2.2 h]
theorem f16n_no {t:TREE} (ht:TreeOK t) {l:List Int} (hl:l.length<1000000) (h:¬ HandsOK t l):f16n (t,(l,())) = .ret false:=by
 obtain ⟨b,e1,e2⟩:=f16n_big ht l hl;cases b with
 | false=>exact e1
 | true=>exact absurd (e2.1 rfl) h
theorem up_head {t:TREE} (ht:TreeOK t) (s:List (List Int)) {n:Int} (h0:0<n) (hn:n<t.2.1.length):upTo t s n=if s.getD n.toNat []=s.getD 0 [] then [] else n :: upTo t s (parentAt t n.toNat):=by
 unfold upTo;rw [path_up ht h0 hn,List.takeWhile_cons];unfold offB
 by_cases h:s.getD n.toNat []=s.getD 0 []
 . rw [if_pos h,dF (show ¬ ¬ s.getD n.toNat []=s.getD 0 [] from fun g=>g h)];rfl
 . rw [if_neg h,dT h];rfl
theorem up_zero (t:TREE) (s:List (List Int)):upTo t s 0=[]:=by
 unfold upTo;rw [path0,List.takeWhile_cons];unfold offB;rw [dF (show ¬ ¬ s.getD (0:Int).toNat []=s.getD 0 [] from fun g=>g rfl)];rfl
theorem f70n_at {t:TREE} (ht:TreeOK t) {s:List (List Int)} (hs:StoryOK t s) (c:Int):∀ n:Int,0<=n->n<t.2.1.length->∀ m:Nat,n<m->f70nr m (t,(s,(n,(c,())))) = .ret (decide (c∈upTo t s n)):=by
 have hcc:=ht.copies;have hsl:=hs.len;have hP:=ht.places;have hrow:∀ i,i<s.length->(s.getD i []).length<1000000:=fun i hi=>by have:=(hs.row i hi).len;omega
 refine path_ind ht (P:=fun n=>∀ m:Nat,n<m->f70nr m (t,(s,(n,(c,())))) = .ret (decide (c∈upTo t s n))) ?_ ?_
 . intro m hm;obtain ⟨m,rfl⟩:=succ_of (show 0<m by omega);show F70n (f70nr m) fuel _=_;unfold F70n;simp only [inbT (Int.le_refl 0) (show (0:Int)<s.length by omega),show (0:Int).toNat=0 from rfl,cond_true,f19_at (s.getD 0 []) (s.getD 0 []) (hrow 0 (by omega)),decide_true,up_zero]
   rfl
 . intro n h0 hn ih m hm;obtain ⟨m,rfl⟩:=succ_of (show 0<m by omega);have hu:=up_in ht h0 hn;show F70n (f70nr m) fuel _=_;unfold F70n;simp only [inbT (show 0<=n by omega) (show n<s.length by omega),inbT (Int.le_refl 0) (show (0:Int)<s.length by omega),show (0:Int).toNat=0 from rfl,cond_true,f19_at (s.getD n.toNat []) (s.getD 0 []) (hrow n.toNat (by omega)),up_head ht s h0 hn]
   by_cases h:s.getD n.toNat []=s.getD 0 []
   . simp only [dT h,if_pos h];rfl
   simp only [dF h,if_neg h]
   by_cases e:n=c
   . simp only [eT e];rw [e,dT (show c∈c :: _ by simp)]
   . have e2:(t.2.1.getD n.toNat NODE0).1=parentAt t n.toNat:=rfl;simp only [eF e,inbT (show 0<=n by omega) (show n<t.2.1.length by omega),cond_true,e2,ih m (by omega)]
     congr 1
     rw [decide_eq_decide];constructor
     . intro h;exact List.mem_cons_of_mem _ h
     . intro h;rcases List.mem_cons.1 h with h|h
       . exact absurd h.symm e
       . exact h
theorem f70n_is {t:TREE} (ht:TreeOK t) {s:List (List Int)} (hs:StoryOK t s) {n:Int} (h:IsCopy t n) (c:Int):f70n (t,(s,(n,(c,())))) = .ret (decide (c∈upTo t s n)):=by
 have:=ht.copies;have hfb:=fuel_big;exact f70n_at ht hs c n h.l h.h fuel (by have:=h.h;omega)
theorem again_mem {t:TREE} {s:List (List Int)} {l:List Int} {c:Int}:c∈againL t s l<->∃ h∈l,c∈upTo t s h:=by unfold againL;rw [List.mem_flatMap]
theorem up_pos {t:TREE} (ht:TreeOK t) (s:List (List Int)):∀ n:Int,0<=n->n<t.2.1.length->(0:Int) ∉ upTo t s n:=by
 refine path_ind ht (P:=fun n=>(0:Int) ∉ upTo t s n) ?_ ?_
 . rw [up_zero];simp
 . intro n h0 hn ih;rw [up_head ht s h0 hn];split
   . simp
   . intro h;rcases List.mem_cons.1 h with h|h
     . omega
     . exact ih h
theorem f26n_in {t:TREE} (ht:TreeOK t) {s:List (List Int)} (hs:StoryOK t s) {l:List Int} (h:HandsOK t l) (hl:l.length<1000000) (i:Nat) (out:List Int) (n0:Nat):∀ (d n k:Nat) (met:Bool),d<n->k+d=l.length ->
 ∃ n',L26n_1 fuel n0 n (t,(s,(l,()))) i out met k=L26n_1 fuel n0 (n'+1) (t,(s,(l,()))) i out (met || (l.drop k).any fun x=>decide ((i:Int)∈upTo t s x)) (l.length:Int)
 | 0,n,k,met,hd,hk=>by
  obtain ⟨n,rfl⟩:=succ_of hd;obtain rfl:k=l.length:=by omega
  refine ⟨n,?_⟩;rw [List.drop_length];simp
 | d+1,n,k,met,hd,hk=>by
  obtain ⟨n,rfl⟩:=succ_of (show 0<n by omega);have hkl:k<l.length:=by omega
  have e1:l.drop k=l.getD k 0 :: l.drop (k+1):=by
   rw [List.drop_eq_getElem_cons hkl,List.getD_eq_getElem?_getD,List.getElem?_eq_getElem hkl];rfl
  obtain ⟨n',h'⟩:=f26n_in ht hs h hl i out n0 d n (k+1) (met || decide ((i:Int)∈upTo t s (l.getD k 0))) (by omega) (by omega)
  refine ⟨n',?_⟩;have hcp:IsCopy t (l.getD k 0):=⟨by have:=(h k hkl).lo;omega,(h k hkl).hi⟩
  rw [e1,List.any_cons,<- Bool.or_assoc,<- h',L26n_1_succ]
  try delta lenI
  cases met with
  | true=>simp only [dT (show (k:Int)<l.length by omega),wn (show k<1000000000 by omega),Bool.true_or]
  | false=>simp only [dT (show (k:Int)<l.length by omega),wn (show k<1000000000 by omega),inbT (show (0:Int)<=k by omega) (show (k:Int)<l.length by omega),cond_true,Int.toNat_natCast,Bool.false_or,f70n_is ht hs hcp]
theorem f26n_at {t:TREE} (ht:TreeOK t) {s:List (List Int)} (hs:StoryOK t s) {l:List Int} (h:HandsOK t l):f26n (t,(s,(l,()))) = .ret (againT t s l):=by
 have hfb:=fuel_big;have hc:=ht.copies;have hl:=hands_len h;unfold f26n F26n
 let q:Int->Bool:=fun c=>decide (c∈againL t s l)
 have key:=runL1 (L:=fun n i=>L26n_0 fuel n (t,(s,(l,()))) ((allTo i).filter q) i) (lo:=1) (len:=t.2.1.length) (K:=.ret (againT t s l)) (fun n i h0 hi=>?_) (fun n=>?_) (t.2.1.length - 1) fuel 1 (Nat.le_refl _) (by omega) (by omega)
 . refine Eq.trans ?_ key;show L26n_0 fuel fuel (t,(s,(l,()))) [] 1=L26n_0 fuel fuel (t,(s,(l,()))) _ ((1:Nat):Int);have e:(allTo 1).filter q=[]:=by
    show (([0]:List Int).filter q)=[]
    have:q 0=false:=dF fun hm=>by
     obtain ⟨x,hx,hm⟩:=again_mem.1 hm;have:=hands_mem h hx;exact up_pos ht s x this.2.l this.2.h hm
    simp [this]
   rw [e];rfl
 . try dsimp only
   rw [L26n_0_succ]
   try delta lenI
   simp only [dT (show (i:Int)<t.2.1.length by omega)];obtain ⟨n',h'⟩:=f26n_in ht hs h (by omega) i ((allTo i).filter q) n l.length fuel 0 false (by omega) (by omega);have h'':L26n_1 fuel n fuel (t,(s,(l,()))) i ((allTo i).filter q) false 0=_:=h'
   rw [h'',List.drop_zero,Bool.false_or,L26n_1_succ]
   try delta lenI
   have hq:(l.any fun x=>decide ((i:Int)∈upTo t s x))=q i:=by
    show _=decide _;rw [Bool.eq_iff_iff,List.any_eq_true,decide_eq_true_eq,again_mem];simp only [decide_eq_true_eq]
   have hfl:=filter_len q i;rw [hq];simp only [dF (show ¬ ((l.length:Nat):Int)<l.length by omega),wn (show i<1000000000 by omega)];rw [filter_succ];cases e:q i with
   | true=>simp only [if_true,fitsT (xs:=(allTo i).filter q) (ys:=[(i:Int)]) (by simp only [List.length_cons,List.length_nil];omega),cond_true]
   | false=>simp only [Bool.false_eq_true,if_false,List.append_nil]
 . try dsimp only
   rw [L26n_0_succ]
   try delta lenI
   simp only [dF (show ¬ ((t.2.1.length:Nat):Int)<t.2.1.length by omega)];rfl
end Go.V
namespace Go.V
open Go.Proofs
def specs5:List Spec:=[sp13v,sp14v,sp31v,sp51v,sp17v,sp32v,sp16nv,sp26nv,sp19v]
def hints5:List (Nat×List Nat):=[]
def F5 (N:Nat) (x:lt10):Out Bool:=match f13v (x.1,()) with | .ret r_1=>(match (!r_1) with|true=>(match f14v () with | .ret r=>.ret r | .pan p=>.pan p | .fail=>.fail)|false=>match f31v (x.2.1,()) with | .ret r_5=>(match (!r_5) with|true=>(match f14v () with | .ret r=>.ret r | .pan p=>.pan p | .fail=>.fail)|false=>match (decide ((lenI x.2.2.1) > 10)) with|true=>(match f14v () with | .ret r=>.ret r | .pan p=>.pan p | .fail=>.fail)|false=>match f51v (x.1,(x.2.1,(x.2.2.1,()))) with | .ret r_11=>(match f17v (x.1,()) with | .ret r_13=>(match (!r_13) with|true=>(match (r_11.2.1==2) with|true=>(match ((lenI r_11.1)==0) with|true=>(match f14v () with | .ret r=>.ret r | .pan p=>.pan p | .fail=>.fail)|false=>.ret false)|false=>.ret false)|false=>match f32v (x.1,(x.2.1,())) with | .ret r_17=>(match (!r_17) with|true=>(match (r_11.2.1==2) with|true=>(match ((lenI r_11.1)==0) with|true=>(match f14v () with | .ret r=>.ret r | .pan p=>.pan p | .fail=>.fail)|false=>.ret false)|false=>.ret false)|false=>match f16nv (x.1,(x.2.2.1,())) with | .ret r_21=>(match (!r_21) with|true=>(match (r_11.2.1==2) with|true=>(match ((lenI r_11.1)==0) with|true=>(match f14v () with | .ret r=>.ret r | .pan p=>.pan p | .fail=>.fail)|false=>.ret false)|false=>.ret false)|false=>match (r_11.2.1==0) with|true=>(match f26nv (x.1,(x.2.1,(x.2.2.1,()))) with | .ret r_25=>(match f19v (r_11.1,(r_25,())) with | .ret r_27=>(match r_27 with|true=>(match f14v () with | .ret r=>.ret r | .pan p=>.pan p | .fail=>.fail)|false=>.ret false) | .pan p=>.pan p | .fail=>.fail) | .pan p=>.pan p | .fail=>.fail)|false=>.ret false) | .pan p=>.pan p | .fail=>.fail) | .pan p=>.pan p | .fail=>.fail) | .pan p=>.pan p | .fail=>.fail) | .pan p=>.pan p | .fail=>.fail) | .pan p=>.pan p | .fail=>.fail) | .pan p=>.pan p | .fail=>.fail
theorem e5 (N:Nat) (x:lt10):vfn Tryz.prog (phi specs5) hints5 N Tryz.f5 false false ty29 .bool x=F5 N x:=by kernel_rfl
def f5 (x:lt10):Out Bool:=F5 fuel x
def sp5:Spec:=⟨5,.call,ty29,.bool,false,false,f5⟩
theorem c5:Contract Tryz.prog sp5:=contract_at (l:=specs5) (arg:=ty29) (res:=.bool) (multi:=false) (own:=false) (F:=f5) mixed (all_cons c13v (all_cons c14v (all_cons c31v (all_cons c51v (all_cons c17v (all_cons c32v (all_cons c16nv (all_cons c26nv (all_cons c19v all_nil))))))))) Tryz.func5 rfl hints5 fun x _=>⟨fuel,e5 fuel x⟩
end Go.V
namespace Go.V
open Go.Proofs
theorem law5 (t:TREE) (s:List (List Int)) (l:List Int):f5 (t,(s,(l,()))) = .ret true:=by
 show F5 fuel (t,(s,(l,())))=_;unfold F5;obtain ⟨c,h13⟩:=f13_at t;obtain ⟨d,h31⟩:=f31_at s;simp only [f13v_eq,f31v_eq,f51v_eq,f17v_eq,f32v_eq,f16nv_eq,f26nv_eq,f19v_eq,h13,h31];cases c with
 | false=>simp only [nf,known_true]
 | true =>
 cases d with
 | false=>simp only [nt,nf,known_true]
 | true =>
  simp only [nt]
  by_cases hl:lenI l > 10
  . simp only [dT hl,known_true]
  have hll:l.length<1000000:=by have h2:¬ ((l.length:Int) > 10):=hl;omega
  simp only [dF hl]
  by_cases ht:TreeOK t
  rotate_left
  . simp only [f51_no (t:=t) (s:=s) hll fun h=>ht h.1,no17 ht,nf,b22,bl0,known_true]
  simp only [ht.t17,nt];rcases story_ret ht s with ⟨hs,h32,_⟩|⟨hs,h32,_⟩
  rotate_left
  . simp only [f51_no (t:=t) (s:=s) hll fun h=>hs h.2.1,h32,nf,b22,bl0,known_true]
  simp only [h32,nt]
  by_cases hh:HandsOK t l
  rotate_left
  . simp only [f51_no (t:=t) (s:=s) hll fun h=>hh h.2.2,f16n_no ht hll hh,nf,b22,bl0,known_true]
  have hal:(againT t s l).length<1000000:=by
   have:=filter_len (fun c=>decide (c∈againL t s l)) t.2.1.length;have:=ht.small;unfold againT;omega
  simp only [f51_at ht hs hh,f16n_yes ht hh,nt,b00,f26n_at ht hs hh,f19_at (againT t s l) (againT t s l) hal,decide_true,known_true]
end Go.V
end
