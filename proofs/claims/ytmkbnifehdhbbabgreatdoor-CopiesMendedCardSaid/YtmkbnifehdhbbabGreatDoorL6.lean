/- What law 6 of the copies needs beyond what all laws need: functions read, and the plain law. -/
import Derived.Test.YtmkbnifehdhbbabGreatDoorQL
import Derived.Test.YtmkbnifehdhbbabGreatDoorCR2
import Derived.Test.YtmkbnifehdhbbabGreatDoorCRA
set_option linter.all false
noncomputable section
namespace Go.V
open Go.Proofs
def specs13:List Spec:=[]
def hints13:List (Nat×List Nat):=[(2,[1,3])]
def L13_0 (N:Nat) (n_L13_0:Nat) (x:lt1) (i_1:Int):Out Bool :=
 vloop Tryz.prog (phi specs13) hints13 N Tryz.f12 false false .bool [.at 1,.at 0,.at 1,.at 0] n_L13_0 [U,.box [.d (.int .i64) x.1.1,.d ty0 x.1.2.1],U,.d (.int .i64) i_1,U,U,U,U,U,U,U,U,U,U,U,U,U,U,U,U,U,U,U,U,U,U,U]
theorem L13_0_succ (N:Nat) (n_L13_0:Nat) (x:lt1) (i_1:Int):L13_0 N  (n_L13_0+1) x i_1 =
 (match (decide (i_1<(lenI x.1.2.1))) with|true=>(match (decide (i_1<10)) with|true=>bif (inb i_1 x.1.2.1.length) then match (decide ((lenI ((List.getD x.1.2.1 i_1.toNat (0,([],())))).2.1) > 5)) with|true=>.ret false|false=>L13_0 N n_L13_0 x (IntKind.i64.wrap (i_1+1)) else .fail|false=>.ret (decide ((lenI x.1.2.1)<=10)))|false=>.ret (decide ((lenI x.1.2.1)<=10)):Out Bool):=by kernel_rfl
def F13 (N:Nat) (x:lt1):Out Bool:=L13_0 N N x 0
theorem e13 (N:Nat) (x:lt1):vfn Tryz.prog (phi specs13) hints13 N Tryz.f12 false false ty2 .bool x=F13 N x:=by kernel_rfl
def f13 (x:lt1):Out Bool:=F13 fuel x
def sp13:Spec:=⟨12,.call,ty2,.bool,false,false,f13⟩
theorem c13:Contract Tryz.prog sp13:=contract_at (l:=specs13) (arg:=ty2) (res:=.bool) (multi:=false) (own:=false) (F:=f13) mixed all_nil Tryz.func12 rfl hints13 fun x _=>⟨fuel,e13 fuel x⟩
def specs23:List Spec:=[]
def hints23:List (Nat×List Nat):=[(2,[0,1,5])]
def L23_0 (N:Nat) (n_L23_0:Nat) (x:lt2) (i_1:Int):Out Bool :=
 vloop Tryz.prog (phi specs23) hints23 N Tryz.f63 false false .bool [.at 1,.at 0,.at 1,.at 0] n_L23_0 [.d (.list (.int .i64)) x.1,.d (.int .i64) x.2.1,U,U,U,.d (.int .i64) i_1,U,U,U,U,U,U,U,U,U,U,U,U]
theorem L23_0_succ (N:Nat) (n_L23_0:Nat) (x:lt2) (i_1:Int):L23_0 N  (n_L23_0+1) x i_1 =
 (match (decide (i_1<(lenI x.1))) with|true=>bif (inb i_1 x.1.length) then match ((List.getD x.1 i_1.toNat 0)==x.2.1) with|true=>.ret true|false=>L23_0 N n_L23_0 x (IntKind.i64.wrap (i_1+1)) else .fail|false=>.ret false:Out Bool):=by kernel_rfl
def F23 (N:Nat) (x:lt2):Out Bool:=L23_0 N N x 0
theorem e23 (N:Nat) (x:lt2):vfn Tryz.prog (phi specs23) hints23 N Tryz.f63 false false ty3 .bool x=F23 N x:=by kernel_rfl
def f23 (x:lt2):Out Bool:=F23 fuel x
def sp23:Spec:=⟨63,.call,ty3,.bool,false,false,f23⟩
theorem c23:Contract Tryz.prog sp23:=contract_at (l:=specs23) (arg:=ty3) (res:=.bool) (multi:=false) (own:=false) (F:=f23) mixed all_nil Tryz.func63 rfl hints23 fun x _=>⟨fuel,e23 fuel x⟩
def specs31:List Spec:=[]
def hints31:List (Nat×List Nat):=[(2,[0,3])]
def L31_0 (N:Nat) (n_L31_0:Nat) (x:((List (List Int))×Unit)) (i_1:Int):Out Bool :=
 vloop Tryz.prog (phi specs31) hints31 N Tryz.f23 false false .bool [.at 1,.at 0,.at 1,.at 0] n_L31_0 [.d ty1 x.1,U,U,.d (.int .i64) i_1,U,U,U,U,U,U,U,U,U,U,U,U,U,U,U,U,U,U,U]
theorem L31_0_succ (N:Nat) (n_L31_0:Nat) (x:((List (List Int))×Unit)) (i_1:Int):L31_0 N  (n_L31_0+1) x i_1 =
 (match (decide (i_1<(lenI x.1))) with|true=>(match (decide (i_1<12)) with|true=>bif (inb i_1 x.1.length) then match (decide ((lenI (List.getD x.1 i_1.toNat [])) > 5)) with|true=>.ret false|false=>L31_0 N n_L31_0 x (IntKind.i64.wrap (i_1+1)) else .fail|false=>.ret (decide ((lenI x.1)<=10)))|false=>.ret (decide ((lenI x.1)<=10)):Out Bool):=by kernel_rfl
def F31 (N:Nat) (x:((List (List Int))×Unit)):Out Bool:=L31_0 N N x 0
theorem e31 (N:Nat) (x:((List (List Int))×Unit)):vfn Tryz.prog (phi specs31) hints31 N Tryz.f23 false false (.prod (.list (.list (.int .i64))) .unit) .bool x=F31 N x:=by kernel_rfl
def f31 (x:((List (List Int))×Unit)):Out Bool:=F31 fuel x
def sp31:Spec:=⟨23,.call,(.prod (.list (.list (.int .i64))) .unit),.bool,false,false,f31⟩
theorem c31:Contract Tryz.prog sp31:=contract_at (l:=specs31) (arg:=(.prod (.list (.list (.int .i64))) .unit)) (res:=.bool) (multi:=false) (own:=false) (F:=f31) mixed all_nil Tryz.func23 rfl hints31 fun x _=>⟨fuel,e31 fuel x⟩
def specs61:List Spec:=[]
def hints61:List (Nat×List Nat):=[]
theorem e61 (N:Nat) (x:(Int×(Int×(Int×Unit)))):vfn Tryz.prog (phi specs61) hints61 N Tryz.f60 false false ty10 .bool x=F61 N x:=by kernel_rfl
theorem c61:Contract Tryz.prog sp61:=contract_at (l:=specs61) (arg:=ty10) (res:=.bool) (multi:=false) (own:=false) (F:=f61) mixed all_nil Tryz.func60 rfl hints61 fun x _=>⟨fuel,e61 fuel x⟩
def specs46:List Spec:=[sp61]
def hints46:List (Nat×List Nat):=[]
theorem e46 (N:Nat) (x:(Int×Unit)):vfn Tryz.prog (phi specs46) hints46 N Tryz.f31 false false (.prod (.int .i64) .unit) .bool x=F46 N x:=by kernel_rfl
theorem c46:Contract Tryz.prog sp46:=contract_at (l:=specs46) (arg:=(.prod (.int .i64) .unit)) (res:=.bool) (multi:=false) (own:=false) (F:=f46) mixed (all_cons c61 all_nil) Tryz.func31 rfl hints46 fun x _=>⟨fuel,e46 fuel x⟩
theorem e17 (N:Nat) (x:lt1):vfn Tryz.prog (phi specs17) hints17 N Tryz.f15 false false ty2 .bool x=F17 N x:=by kernel_rfl
def sp17:Spec:=⟨15,.call,ty2,.bool,false,false,f17⟩
theorem c17:Contract Tryz.prog sp17:=contract_at (l:=specs17) (arg:=ty2) (res:=.bool) (multi:=false) (own:=false) (F:=f17) mixed (all_cons c61 (all_cons c46 all_nil)) Tryz.func15 rfl hints17 fun x _=>⟨fuel,e17 fuel x⟩
def specs22:List Spec:=[sp13,sp17]
def hints22:List (Nat×List Nat):=[]
def F22 (N:Nat) (x:lt1):Out Bool:=match f13 (x.1,()) with | .ret r_1=>(match r_1 with|true=>(match f17 (x.1,()) with | .ret r=>.ret r | .pan p=>.pan p | .fail=>.fail)|false=>.ret false) | .pan p=>.pan p | .fail=>.fail
theorem e22 (N:Nat) (x:lt1):vfn Tryz.prog (phi specs22) hints22 N Tryz.f19 false false ty2 .bool x=F22 N x:=by kernel_rfl
def f22 (x:lt1):Out Bool:=F22 fuel x
def sp22:Spec:=⟨19,.call,ty2,.bool,false,false,f22⟩
theorem c22:Contract Tryz.prog sp22:=contract_at (l:=specs22) (arg:=ty2) (res:=.bool) (multi:=false) (own:=false) (F:=f22) mixed (all_cons c13 (all_cons c17 all_nil)) Tryz.func19 rfl hints22 fun x _=>⟨fuel,e22 fuel x⟩
theorem e32 (N:Nat) (x:lt3):vfn Tryz.prog (phi specs32) hints32 N Tryz.f25 false false ty4 .bool x=F32 N x:=by kernel_rfl
def sp32:Spec:=⟨25,.call,ty4,.bool,false,false,f32⟩
theorem c32:Contract Tryz.prog sp32:=contract_at (l:=specs32) (arg:=ty4) (res:=.bool) (multi:=false) (own:=false) (F:=f32) mixed (all_cons c46 all_nil) Tryz.func25 rfl hints32 fun x _=>⟨fuel,e32 fuel x⟩
end Go.V
namespace Go.V
open Go.Proofs
theorem f23_at (l:List Int) (x:Int) (h:l.length<1000000):f23 (l,(x,())) = .ret (decide (x∈l)):=by
 have hfb:=fuel_big;unfold f23 F23;have key:=findL (L:=fun n i=>L23_0 fuel n (l,(x,())) i) (len:=l.length) (K:=.ret false) (fun i=>l.getD i 0=x) (fun _=>.ret true) (fun n i hi=>?_) (fun n=>?_) l.length fuel 0 (by omega) (by omega)
 . rcases key with ⟨j,h1,h2,h3,h4,h5⟩|⟨h1,h2⟩
   . rw [show L23_0 fuel fuel (l,(x,())) 0=_ from h5,dT (show x∈l by rw [<- h3];exact getD_mem h2)]
   . rw [show L23_0 fuel fuel (l,(x,())) 0=_ from h2,dF fun hm=>?_];obtain ⟨i,hi,he⟩:=mem_getD hm;exact h1 i (Nat.zero_le _) hi he
 . try dsimp only
   rw [L23_0_succ]
   try delta lenI
   simp only [dT (show (i:Int)<l.length by omega),inbT (show (0:Int)<=i by omega) (show (i:Int)<l.length by omega),cond_true,Int.toNat_natCast,wn (show i<1000000000 by omega)]
   by_cases g:l.getD i 0=x
   . simp only [eT g];exact .inl ⟨g,trivial⟩
   . simp only [eF g];exact .inr ⟨g,trivial⟩
 . try dsimp only
   rw [L23_0_succ]
   try delta lenI
   simp only [dF (show ¬ ((l.length:Nat):Int)<l.length by omega)]
theorem f13_at (t:TREE):∃ b,f13 (t,()) = .ret b:=by
 have hfb:=fuel_big;unfold f13 F13;have done:∀ n i:Nat,¬ (i:Int)<t.2.1.length\/¬ i<10->∃ b,L13_0 fuel (n+1) (t,()) i = .ret b:=fun n i h=>by
  rw [L13_0_succ]
  try delta lenI
  by_cases h1:(i:Int)<t.2.1.length
  . have h2:¬ (i:Int)<10:=by rcases h with h|h<;>omega
    simp only [dT h1,dF h2];exact ⟨_,rfl⟩
  . simp only [dF h1];exact ⟨_,rfl⟩
 have loop:∀ (d n i:Nat),d<n->i+d=10->∃ b,L13_0 fuel n (t,()) i = .ret b:=by
  intro d
  induction d with
  | zero =>
   intro n i hn hi;obtain ⟨n,rfl⟩:=succ_of hn;exact done n i (.inr (by omega))
  | succ d ih =>
   intro n i hn hi;obtain ⟨n,rfl⟩:=succ_of hn
   by_cases h1:(i:Int)<t.2.1.length
   . rw [L13_0_succ]
     try delta lenI
     simp only [dT h1,dT (show (i:Int)<10 by omega),inbT (show (0:Int)<=i by omega) h1,cond_true,wn (show i<1000000000 by omega)];split
     . exact ⟨_,rfl⟩
     . exact ih n (i+1) (by omega) (by omega)
   . exact done n i (.inl h1)
 exact loop 10 fuel 0 (by omega) (by omega)
end Go.V
namespace Go.V
open Go.Proofs
theorem f22_at (t:TREE):f22 (t,()) = .ret false\/(f22 (t,()) = .ret true/\TreeOK t):=by
 obtain ⟨b,h⟩:=f13_at t;unfold f22 F22;cases b with
 | false=>simp only [h];exact .inl trivial
 | true =>
  simp only [h];rcases tree_ret (t:=t) with ⟨h1,h2,_⟩|⟨h1,h2,_⟩
  . simp only [h2];exact .inr ⟨trivial,h1⟩
  . simp only [h2];exact .inl trivial
theorem f31_at (s:List (List Int)):∃ b,f31 (s,()) = .ret b:=by
 have hfb:=fuel_big;unfold f31 F31;have done:∀ n i:Nat,¬ (i:Int)<s.length\/¬ i<12->∃ b,L31_0 fuel (n+1) (s,()) i = .ret b:=fun n i h=>by
  rw [L31_0_succ]
  try delta lenI
  by_cases h1:(i:Int)<s.length
  . have h2:¬ (i:Int)<12:=by rcases h with h|h<;>omega
    simp only [dT h1,dF h2];exact ⟨_,rfl⟩
  . simp only [dF h1];exact ⟨_,rfl⟩
 have loop:∀ (d n i:Nat),d<n->i+d=12->∃ b,L31_0 fuel n (s,()) i = .ret b:=by
  intro d
  induction d with
  | zero =>
   intro n i hn hi;obtain ⟨n,rfl⟩:=succ_of hn;exact done n i (.inr (by omega))
  | succ d ih =>
   intro n i hn hi;obtain ⟨n,rfl⟩:=succ_of hn
   by_cases h1:(i:Int)<s.length
   . rw [L31_0_succ]
     try delta lenI
     simp only [dT h1,dT (show (i:Int)<12 by omega),inbT (show (0:Int)<=i by omega) h1,cond_true,wn (show i<1000000000 by omega)];split
     . exact ⟨_,rfl⟩
     . exact ih n (i+1) (by omega) (by omega)
   . exact done n i (.inl h1)
 exact loop 12 fuel 0 (by omega) (by omega)
end Go.V
namespace Go.V
open Go.Proofs
@[irreducible] def f22v:lt1->Out Bool:=veil f22
theorem f22v_eq:f22v=f22:=by unfold f22v;exact veil_eq f22
def sp22v:Spec:=⟨19,.call,ty2,.bool,false,false,f22v⟩
theorem c22v:Contract Tryz.prog sp22v:=by
 unfold sp22v
 rw [f22v_eq]
 exact c22
@[irreducible] def f31v:((List (List Int))×Unit)->Out Bool:=veil f31
theorem f31v_eq:f31v=f31:=by unfold f31v;exact veil_eq f31
def sp31v:Spec:=⟨23,.call,(.prod (.list (.list (.int .i64))) .unit),.bool,false,false,f31v⟩
theorem c31v:Contract Tryz.prog sp31v:=by
 unfold sp31v
 rw [f31v_eq]
 exact c31
@[irreducible] def f32v:lt3->Out Bool:=veil f32
theorem f32v_eq:f32v=f32:=by unfold f32v;exact veil_eq f32
def sp32v:Spec:=⟨25,.call,ty4,.bool,false,false,f32v⟩
theorem c32v:Contract Tryz.prog sp32v:=by
 unfold sp32v
 rw [f32v_eq]
 exact c32
end Go.V
namespace Go.V
open Go.Proofs
theorem n00:((0:Int) != 0)=false:=rfl
theorem nt:(!true)=false:=rfl
theorem nf:(!false)=true:=rfl
theorem TreeOK.small {t:TREE} (h:TreeOK t):t.2.1.length<1000000:=by have:=h.copies;omega
end Go.V
namespace Go.V
open Go.Proofs
theorem TreeOK.par_lt {t:TREE} (h:TreeOK t) {i:Nat} (h0:0<i) (hi:i<t.2.1.length):parN t i<i:=by
 have:=h.par i h0 hi;unfold parN;omega
end Go.V
namespace Go.V
open Go.Proofs
def specs16n:List Spec:=[sp61]
def hints16n:List (Nat×List Nat):=[(2,[1,2,5])]
def L16n_0 (N:Nat) (n_L16n_0:Nat) (x:lt15) (i_1:Int):Out Bool :=
 vloop Tryz.prog (phi specs16n) hints16n N Tryz.f16 false false .bool [.at 1,.at 0,.at 1,.at 0] n_L16n_0 [U,.d (.list (.int .i64)) x.2.1,.box [.d (.int .i64) x.1.1,.d ty0 x.1.2.1],U,U,.d (.int .i64) i_1,U,U,U,U,U,U,U,U,U,U,U,U,U,U,U,U,U,U,U,U,U,U,U,U,U,U,U,U,U,U,U,U]
theorem L16n_0_succ (N:Nat) (n_L16n_0:Nat) (x:lt15) (i_1:Int):L16n_0 N  (n_L16n_0+1) x i_1 =
 (match (decide (i_1<(lenI x.2.1))) with|true=>bif (inb i_1 x.2.1.length) then match f61 ((List.getD x.2.1 i_1.toNat 0),(1,((IntKind.i64.wrap ((lenI x.1.2.1) - 1)),()))) with | .ret r_2=>(match (!r_2) with|true=>.ret false|false=>match (decide (i_1 > 0)) with|true=>bif (inb i_1 x.2.1.length) then bif (inb (IntKind.i64.wrap (i_1 - 1)) x.2.1.length) then match (decide ((List.getD x.2.1 i_1.toNat 0)<=(List.getD x.2.1 (IntKind.i64.wrap (i_1 - 1)).toNat 0))) with|true=>.ret false|false=>L16n_0 N n_L16n_0 x (IntKind.i64.wrap (i_1+1)) else .fail else .fail|false=>L16n_0 N n_L16n_0 x (IntKind.i64.wrap (i_1+1))) | .pan p=>.pan p | .fail=>.fail else .fail|false=>.ret true:Out Bool):=by kernel_rfl
def F16n (N:Nat) (x:lt15):Out Bool:=L16n_0 N N x 0
theorem e16n (N:Nat) (x:lt15):vfn Tryz.prog (phi specs16n) hints16n N Tryz.f16 false false ty23 .bool x=F16n N x:=by kernel_rfl
def f16n (x:lt15):Out Bool:=F16n fuel x
def sp16n:Spec:=⟨16,.call,ty23,.bool,false,false,f16n⟩
theorem c16n:Contract Tryz.prog sp16n:=contract_at (l:=specs16n) (arg:=ty23) (res:=.bool) (multi:=false) (own:=false) (F:=f16n) mixed (all_cons c61 all_nil) Tryz.func16 rfl hints16n fun x _=>⟨fuel,e16n fuel x⟩
def specs20n:List Spec:=[sp23]
def hints20n:List (Nat×List Nat):=[(2,[0,1,5])]
def L20n_0 (N:Nat) (n_L20n_0:Nat) (x:lt5) (i_1:Int):Out Bool :=
 vloop Tryz.prog (phi specs20n) hints20n N Tryz.f20 false false .bool [.at 1,.at 0,.at 1,.at 0] n_L20n_0 [.d (.list (.int .i64)) x.1,.d (.list (.int .i64)) x.2.1,U,U,U,.d (.int .i64) i_1,U,U,U,U,U,U,U,U,U,U,U,U,U]
theorem L20n_0_succ (N:Nat) (n_L20n_0:Nat) (x:lt5) (i_1:Int):L20n_0 N  (n_L20n_0+1) x i_1 =
 (match (decide (i_1<(lenI x.1))) with|true=>bif (inb i_1 x.1.length) then match f23 (x.2.1,((List.getD x.1 i_1.toNat 0),())) with | .ret r_2=>(match (!r_2) with|true=>.ret false|false=>L20n_0 N n_L20n_0 x (IntKind.i64.wrap (i_1+1))) | .pan p=>.pan p | .fail=>.fail else .fail|false=>.ret true:Out Bool):=by kernel_rfl
def F20n (N:Nat) (x:lt5):Out Bool:=L20n_0 N N x 0
theorem e20n (N:Nat) (x:lt5):vfn Tryz.prog (phi specs20n) hints20n N Tryz.f20 false false ty7 .bool x=F20n N x:=by kernel_rfl
def f20n (x:lt5):Out Bool:=F20n fuel x
def sp20n:Spec:=⟨20,.call,ty7,.bool,false,false,f20n⟩
theorem c20n:Contract Tryz.prog sp20n:=contract_at (l:=specs20n) (arg:=ty7) (res:=.bool) (multi:=false) (own:=false) (F:=f20n) mixed (all_cons c23 all_nil) Tryz.func20 rfl hints20n fun x _=>⟨fuel,e20n fuel x⟩
def specs27n:List Spec:=[sp19]
def hints27n:List (Nat×List Nat):=[(2,[0,1,5])]
def L27n_0 (N:Nat) (n_L27n_0:Nat) (x:((List (List Int))×((List Int)×Unit))) (i_1:Int):Out Bool :=
 vloop Tryz.prog (phi specs27n) hints27n N Tryz.f27 false false .bool [.at 1,.at 0,.at 1,.at 0] n_L27n_0 [.d ty1 x.1,.d (.list (.int .i64)) x.2.1,U,U,U,.d (.int .i64) i_1,U,U,U,U,U,U,U,U,U,U,U,U,U,U,U,U,U,U]
theorem L27n_0_succ (N:Nat) (n_L27n_0:Nat) (x:((List (List Int))×((List Int)×Unit))) (i_1:Int):L27n_0 N  (n_L27n_0+1) x i_1 =
 (match (decide (i_1<(lenI x.2.1))) with|true=>bif (inb i_1 x.2.1.length) then bif (inb (List.getD x.2.1 i_1.toNat 0) x.1.length) then bif (inb 0 x.1.length) then match f19 ((List.getD x.1 (List.getD x.2.1 i_1.toNat 0).toNat []),((List.getD x.1 (0:Int).toNat []),())) with | .ret r_2=>(match (!r_2) with|true=>.ret false|false=>L27n_0 N n_L27n_0 x (IntKind.i64.wrap (i_1+1))) | .pan p=>.pan p | .fail=>.fail else .fail else .fail else .fail|false=>.ret true:Out Bool):=by kernel_rfl
def F27n (N:Nat) (x:((List (List Int))×((List Int)×Unit))):Out Bool:=L27n_0 N N x 0
theorem e27n (N:Nat) (x:((List (List Int))×((List Int)×Unit))):vfn Tryz.prog (phi specs27n) hints27n N Tryz.f27 false false (.prod (.list (.list (.int .i64))) (.prod (.list (.int .i64)) .unit)) .bool x=F27n N x:=by kernel_rfl
def f27n (x:((List (List Int))×((List Int)×Unit))):Out Bool:=F27n fuel x
def sp27n:Spec:=⟨27,.call,(.prod (.list (.list (.int .i64))) (.prod (.list (.int .i64)) .unit)),.bool,false,false,f27n⟩
theorem c27n:Contract Tryz.prog sp27n:=contract_at (l:=specs27n) (arg:=(.prod (.list (.list (.int .i64))) (.prod (.list (.int .i64)) .unit))) (res:=.bool) (multi:=false) (own:=false) (F:=f27n) mixed (all_cons c19 all_nil) Tryz.func27 rfl hints27n fun x _=>⟨fuel,e27n fuel x⟩
def specs28n:List Spec:=[sp23]
def hints28n:List (Nat×List Nat):=[(3,[1,2,3,7,8])]
def L28n_0 (N:Nat) (n_L28n_0:Nat) (x:lt10) (out_1:(List (List Int))) (i_2:Int):Out (List (List Int)) :=
 vloop Tryz.prog (phi specs28n) hints28n N Tryz.f28 false true ty1 [.at 1,.at 1,.at 0,.at 1,.at 0] n_L28n_0 [U,.d ty1 x.2.1,.d (.list (.int .i64)) x.2.2.1,.box [.d (.int .i64) x.1.1,.d ty0 x.1.2.1],U,U,U,.own (.list (.int .i64)) out_1 false,.d (.int .i64) i_2,U,U,U,U,U,U,U,U,U,U,U,U,U,U,U,U,U,U,U,U,U,U,U,U,U,U,U,U,U,U,U]
theorem L28n_0_succ (N:Nat) (n_L28n_0:Nat) (x:lt10) (out_1:(List (List Int))) (i_2:Int):L28n_0 N  (n_L28n_0+1) x out_1 i_2 =
 (match (decide (i_2<(lenI x.2.1))) with|true=>(match f23 (x.2.2.1,(i_2,())) with | .ret r_3=>(match r_3 with|true=>bif (inb i_2 x.1.2.1.length) then bif (inb ((List.getD x.1.2.1 i_2.toNat (0,([],())))).1 out_1.length) then bif (fits [] (List.getD out_1 ((List.getD x.1.2.1 i_2.toNat (0,([],())))).1.toNat [])) then bif (fits out_1 ([(List.getD out_1 ((List.getD x.1.2.1 i_2.toNat (0,([],())))).1.toNat [])]:List (List Int))) then L28n_0 N n_L28n_0 x (out_1++([(List.getD out_1 ((List.getD x.1.2.1 i_2.toNat (0,([],())))).1.toNat [])]:List (List Int))) (IntKind.i64.wrap (i_2+1)) else .fail else .fail else .fail else .fail|false=>bif (inb i_2 x.2.1.length) then bif (fits [] (List.getD x.2.1 i_2.toNat [])) then bif (fits out_1 ([(List.getD x.2.1 i_2.toNat [])]:List (List Int))) then L28n_0 N n_L28n_0 x (out_1++([(List.getD x.2.1 i_2.toNat [])]:List (List Int))) (IntKind.i64.wrap (i_2+1)) else .fail else .fail else .fail) | .pan p=>.pan p | .fail=>.fail)|false=>.ret out_1:Out (List (List Int))):=by kernel_rfl
def F28n (N:Nat) (x:lt10):Out (List (List Int)):=L28n_0 N N x [] 0
theorem e28n (N:Nat) (x:lt10):vfn Tryz.prog (phi specs28n) hints28n N Tryz.f28 false true ty29 ty1 x=F28n N x:=by kernel_rfl
def f28n (x:lt10):Out (List (List Int)):=F28n fuel x
def sp28n:Spec:=⟨28,.call,ty29,ty1,false,true,f28n⟩
theorem c28n:Contract Tryz.prog sp28n:=contract_at (l:=specs28n) (arg:=ty29) (res:=ty1) (multi:=false) (own:=true) (F:=f28n) mixed (all_cons c23 all_nil) Tryz.func28 rfl hints28n fun x _=>⟨fuel,e28n fuel x⟩
end Go.V
namespace Go.V
open Go.Proofs
@[irreducible] def f16nv:lt15->Out Bool:=veil f16n
theorem f16nv_eq:f16nv=f16n:=by unfold f16nv;exact veil_eq f16n
def sp16nv:Spec:=⟨16,.call,ty23,.bool,false,false,f16nv⟩
theorem c16nv:Contract Tryz.prog sp16nv:=by
 unfold sp16nv
 rw [f16nv_eq]
 exact c16n
@[irreducible] def f20nv:lt5->Out Bool:=veil f20n
theorem f20nv_eq:f20nv=f20n:=by unfold f20nv;exact veil_eq f20n
def sp20nv:Spec:=⟨20,.call,ty7,.bool,false,false,f20nv⟩
theorem c20nv:Contract Tryz.prog sp20nv:=by
 unfold sp20nv
 rw [f20nv_eq]
 exact c20n
@[irreducible] def f27nv:((List (List Int))×((List Int)×Unit))->Out Bool:=veil f27n
theorem f27nv_eq:f27nv=f27n:=by unfold f27nv;exact veil_eq f27n
def sp27nv:Spec:=⟨27,.call,(.prod (.list (.list (.int .i64))) (.prod (.list (.int .i64)) .unit)),.bool,false,false,f27nv⟩
theorem c27nv:Contract Tryz.prog sp27nv:=by
 unfold sp27nv
 rw [f27nv_eq]
 exact c27n
@[irreducible] def f28nv:lt10->Out (List (List Int)):=veil f28n
theorem f28nv_eq:f28nv=f28n:=by unfold f28nv;exact veil_eq f28n
def sp28nv:Spec:=⟨28,.call,ty29,ty1,false,true,f28nv⟩
theorem c28nv:Contract Tryz.prog sp28nv:=by
 unfold sp28nv
 rw [f28nv_eq]
 exact c28n
end Go.V
namespace Go.V
open Go.Proofs
theorem f16n_big {t:TREE} (ht:TreeOK t) (l:List Int) (hl:l.length<1000000):∃ b,f16n (t,(l,())) = .ret b/\(b=true<->HandsOK t l):=by
 have hfb:=fuel_big;have hcc:=ht.copies;unfold f16n F16n;have key:=findL (L:=fun n i=>L16n_0 fuel n (t,(l,())) i) (len:=l.length) (K:=.ret true) (fun i=>¬ HandAt t l i) (fun _=>.ret false) (fun n i hi=>?_) (fun n=>?_) l.length fuel 0 (by omega) (by omega)
 . rcases key with ⟨j,h1,h2,h3,h4,h5⟩|⟨h1,h2⟩
   . exact ⟨false,h5,⟨fun h=>(by cases h),fun h=>absurd (h j h2) h3⟩⟩
   . exact ⟨true,h2,⟨fun _=>not_all h1,fun _=>rfl⟩⟩
 . try dsimp only
   rw [L16n_0_succ]
   try delta lenI
   have ew:IntKind.i64.wrap ((t.2.1.length:Int) - 1)=(t.2.1.length:Int) - 1:=wr (by omega) (by omega);simp only [dT (show (i:Int)<l.length by omega),inbT (show (0:Int)<=i by omega) (show (i:Int)<l.length by omega),cond_true,Int.toNat_natCast,i61,ew,wn (show i<1000000000 by omega)]
   by_cases g1:1<=l.getD i 0/\l.getD i 0<=(t.2.1.length:Int) - 1
   rotate_left
   . simp only [dF g1,Bool.not_false];exact .inl ⟨fun h=>g1 ⟨h.lo,by have:=h.hi;omega⟩,trivial⟩
   simp only [dT g1,Bool.not_true]
   by_cases g3:0<i
   . have ei:IntKind.i64.wrap ((i:Int) - 1)=((i - 1:Nat):Int):=by rw [wr (by omega) (by omega)];omega
     simp only [dT (show (i:Int) > 0 by omega),ei,inbT (show (0:Int)<=((i - 1:Nat):Int) by omega) (show ((i - 1:Nat):Int)<l.length by omega),cond_true,Int.toNat_natCast]
     by_cases g4:l.getD i 0<=l.getD (i - 1) 0
     . simp only [dT g4];exact .inl ⟨fun h=>(by have:=h.up g3;omega),trivial⟩
     . simp only [dF g4];exact .inr ⟨fun h=>h ⟨g1.1,by omega,fun _=>by omega⟩,trivial⟩
   . simp only [dF (show ¬ (i:Int) > 0 by omega)];exact .inr ⟨fun h=>h ⟨g1.1,by omega,fun h2=>absurd h2 g3⟩,trivial⟩
 . try dsimp only
   rw [L16n_0_succ]
   try delta lenI
   simp only [dF (show ¬ ((l.length:Nat):Int)<l.length by omega)]
theorem f16n_yes {t:TREE} (ht:TreeOK t) {l:List Int} (h:HandsOK t l):f16n (t,(l,())) = .ret true:=by
 have hl:=hands_len h;have hs:=ht.small;obtain ⟨b,e1,e2⟩:=f16n_big ht l (by omega);rw [e1,e2.2 h]
theorem f16n_no {t:TREE} (ht:TreeOK t) {l:List Int} (hl:l.length<1000000) (h:¬ HandsOK t l):f16n (t,(l,())) = .ret false:=by
 obtain ⟨b,e1,e2⟩:=f16n_big ht l hl;cases b with
 | false=>exact e1
 | true=>exact absurd (e2.1 rfl) h
theorem up_head {t:TREE} (ht:TreeOK t) (s:List (List Int)) {n:Int} (h0:0<n) (hn:n<t.2.1.length):upTo t s n=if s.getD n.toNat []=s.getD 0 [] then [] else n :: upTo t s (parentAt t n.toNat):=by
 unfold upTo;rw [path_up ht h0 hn,List.takeWhile_cons];unfold offB
 by_cases h:s.getD n.toNat []=s.getD 0 []
 . rw [if_pos h,dF (show ¬ ¬ s.getD n.toNat []=s.getD 0 [] from fun g=>g h)];rfl
 . rw [if_neg h,dT h];rfl
theorem up_zero (t:TREE) (s:List (List Int)):upTo t s 0=[]:=by
 unfold upTo;rw [path0,List.takeWhile_cons];unfold offB;rw [dF (show ¬ ¬ s.getD (0:Int).toNat []=s.getD 0 [] from fun g=>g rfl)];rfl
theorem again_mem {t:TREE} {s:List (List Int)} {l:List Int} {c:Int}:c∈againL t s l<->∃ h∈l,c∈upTo t s h:=by unfold againL;rw [List.mem_flatMap]
theorem up_pos {t:TREE} (ht:TreeOK t) (s:List (List Int)):∀ n:Int,0<=n->n<t.2.1.length->(0:Int) ∉ upTo t s n:=by
 refine path_ind ht (P:=fun n=>(0:Int) ∉ upTo t s n) ?_ ?_
 . rw [up_zero];simp
 . intro n h0 hn ih;rw [up_head ht s h0 hn];split
   . simp
   . intro h;rcases List.mem_cons.1 h with h|h
     . omega
     . exact ih h
end Go.V
namespace Go.V
open Go.Proofs
theorem getD_pw {R:Int->Int->Prop} {l:List Int} (h:l.Pairwise R) {i j:Nat} (h1:i<j) (h2:j<l.length):R (l.getD i 0) (l.getD j 0):=by
 have:=List.pairwise_iff_getElem.1 h i j (by omega) h2 h1
 simpa [List.getD_eq_getElem?_getD,List.getElem?_eq_getElem h2,List.getElem?_eq_getElem (show i<l.length by omega)] using this
theorem pw_getD {R:Int->Int->Prop} {l:List Int} (h:∀ i j,i<j->j<l.length->R (l.getD i 0) (l.getD j 0)):l.Pairwise R :=
 List.pairwise_iff_getElem.2 fun i j h1 h2 h3=>by
  have:=h i j h3 h2
  simpa [List.getD_eq_getElem?_getD,List.getElem?_eq_getElem h2,List.getElem?_eq_getElem h1] using this
def OneHand (t:TREE) (x:Int):Prop:=1<=x/\IsCopy t x
theorem hands_hand {t:TREE} {l:List Int} (h:HandsOK t l):∀ x∈l,OneHand t x:=fun x hx=>hands_mem h hx
theorem hands_up {t:TREE} {l:List Int} (h:HandsOK t l):l.Pairwise (· < ·):=by
 have:∀ d i,i+d+1<l.length->l.getD i 0<l.getD (i+d+1) 0:=by
  intro d
  induction d with
  | zero=>intro i hi;exact (h (i+1) (by omega)).up (by omega)
  | succ d ih =>
   intro i hi;have h1:=ih i (by omega);have h2:=(h (i+(d+1)+1) (by omega)).up (by omega);rw [show i+(d+1)+1 - 1=i+d+1 by omega] at h2;omega
 refine pw_getD fun i j h1 h2=>?_
 have:=this (j - i - 1) i (by omega)
 rwa [show i+(j - i - 1)+1=j by omega] at this
theorem hands_of {t:TREE} {l:List Int} (h1:∀ x∈l,OneHand t x) (h2:l.Pairwise (· < ·)):HandsOK t l:=fun i hi =>
 ⟨(h1 _ (getD_mem hi)).1,(h1 _ (getD_mem hi)).2.h,fun h3=>getD_pw h2 (by omega) hi⟩
theorem f20n_at {a:List Int} (b:List Int) (ha:a.length<1000000) (hb:b.length<1000000):f20n (a,(b,())) = .ret (decide (∀ x∈a,x∈b)):=by
 have hfb:=fuel_big;unfold f20n F20n;have key:=findL (L:=fun n i=>L20n_0 fuel n (a,(b,())) i) (len:=a.length) (K:=.ret true) (fun i=>a.getD i 0 ∉ b) (fun _=>.ret false) (fun n i hi=>?_) (fun n=>?_) a.length fuel 0 (by omega) (by omega)
 . rcases key with ⟨j,h1,h2,h3,h4,h5⟩|⟨h1,h2⟩
   . rw [show L20n_0 fuel fuel (a,(b,())) 0=_ from h5,decide_eq_false fun h=>h3 (h _ (getD_mem h2))]
   . rw [show L20n_0 fuel fuel (a,(b,())) 0=_ from h2,decide_eq_true fun x hx=>?_];obtain ⟨i,hi,rfl⟩:=mem_getD hx;exact Classical.byContradiction (h1 i (Nat.zero_le _) hi)
 . try dsimp only
   rw [L20n_0_succ]
   try delta lenI
   simp only [dT (show (i:Int)<a.length by omega),inbT (show (0:Int)<=i by omega) (show (i:Int)<a.length by omega),cond_true,Int.toNat_natCast,f23_at _ _ hb,wn (show i<1000000000 by omega)]
   by_cases g:a.getD i 0∈b
   . simp only [dT g,Bool.not_true];exact .inr ⟨fun h=>h g,trivial⟩
   . simp only [dF g,Bool.not_false];exact .inl ⟨g,trivial⟩
 . try dsimp only
   rw [L20n_0_succ]
   try delta lenI
   simp only [dF (show ¬ ((a.length:Nat):Int)<a.length by omega)]
end Go.V
namespace Go.V
open Go.Proofs
def specs6:List Spec:=[sp22v,sp14v,sp31v,sp32v,sp16nv,sp51v,sp28nv,sp27nv,sp20nv]
def hints6:List (Nat×List Nat):=[]
def F6 (N:Nat) (x:((Int×((List (Int×((List Int)×Unit)))×Unit))×((List (List Int))×((List Int)×(Int×((List Int)×Unit)))))):Out Bool:=match f22v (x.1,()) with | .ret r_1=>(match (!r_1) with|true=>(match f14v () with | .ret r=>.ret r | .pan p=>.pan p | .fail=>.fail)|false=>match f31v (x.2.1,()) with | .ret r_5=>(match (!r_5) with|true=>(match f14v () with | .ret r=>.ret r | .pan p=>.pan p | .fail=>.fail)|false=>match f32v (x.1,(x.2.1,())) with | .ret r_9=>(match (!r_9) with|true=>(match f14v () with | .ret r=>.ret r | .pan p=>.pan p | .fail=>.fail)|false=>match (decide ((lenI x.2.2.1) > 10)) with|true=>(match f14v () with | .ret r=>.ret r | .pan p=>.pan p | .fail=>.fail)|false=>match f16nv (x.1,(x.2.2.1,())) with | .ret r_15=>(match (!r_15) with|true=>(match f14v () with | .ret r=>.ret r | .pan p=>.pan p | .fail=>.fail)|false=>match (decide ((lenI x.2.2.2.2.1) > 10)) with|true=>(match f14v () with | .ret r=>.ret r | .pan p=>.pan p | .fail=>.fail)|false=>match f16nv (x.1,(x.2.2.2.2.1,())) with | .ret r_21=>(match (!r_21) with|true=>(match f14v () with | .ret r=>.ret r | .pan p=>.pan p | .fail=>.fail)|false=>match f51v (x.1,(x.2.1,(x.2.2.1,()))) with | .ret r_25=>(match (r_25.2.1 != 0) with|true=>.ret false|false=>match (decide ((lenI r_25.1) >= (lenI x.1.2.1))) with|true=>.ret false|false=>match f16nv (x.1,(r_25.1,())) with | .ret r_27=>(match (!r_27) with|true=>.ret false|false=>match f28nv (x.1,(x.2.1,(r_25.1,()))) with | .ret r_29=>(match f27nv (r_29,(x.2.2.1,())) with | .ret r_31=>(match (!r_31) with|true=>.ret false|false=>match (decide (x.2.2.2.1 >= 0)) with|true=>(match (decide (x.2.2.2.1<(lenI r_25.1))) with|true=>bif (cutOk 0 x.2.2.2.1 (lenI r_25.1)) then bif (fits [] (cut r_25.1 0 x.2.2.2.1)) then bif (cutOk (IntKind.i64.wrap (x.2.2.2.1+1)) (lenI r_25.1) (lenI r_25.1)) then bif (fits (cut r_25.1 0 x.2.2.2.1) (cut r_25.1 (IntKind.i64.wrap (x.2.2.2.1+1)) (lenI r_25.1))) then match f28nv (x.1,(x.2.1,(((cut r_25.1 0 x.2.2.2.1)++(cut r_25.1 (IntKind.i64.wrap (x.2.2.2.1+1)) (lenI r_25.1))),()))) with | .ret r_33=>(match f27nv (r_33,(x.2.2.1,())) with | .ret r_35=>(match r_35 with|true=>.ret false|false=>match f28nv (x.1,(x.2.1,(x.2.2.2.2.1,()))) with | .ret r_37=>(match f27nv (r_37,(x.2.2.1,())) with | .ret r_39=>(match (!r_39) with|true=>(match f14v () with | .ret r=>.ret r | .pan p=>.pan p | .fail=>.fail)|false=>match f20nv (r_25.1,(x.2.2.2.2.1,())) with | .ret r_43=>(match r_43 with|true=>(match f14v () with | .ret r=>.ret r | .pan p=>.pan p | .fail=>.fail)|false=>.ret false) | .pan p=>.pan p | .fail=>.fail) | .pan p=>.pan p | .fail=>.fail) | .pan p=>.pan p | .fail=>.fail) | .pan p=>.pan p | .fail=>.fail) | .pan p=>.pan p | .fail=>.fail else .fail else .fail else .fail else .fail|false=>match f28nv (x.1,(x.2.1,(x.2.2.2.2.1,()))) with | .ret r_47=>(match f27nv (r_47,(x.2.2.1,())) with | .ret r_49=>(match (!r_49) with|true=>(match f14v () with | .ret r=>.ret r | .pan p=>.pan p | .fail=>.fail)|false=>match f20nv (r_25.1,(x.2.2.2.2.1,())) with | .ret r_53=>(match r_53 with|true=>(match f14v () with | .ret r=>.ret r | .pan p=>.pan p | .fail=>.fail)|false=>.ret false) | .pan p=>.pan p | .fail=>.fail) | .pan p=>.pan p | .fail=>.fail) | .pan p=>.pan p | .fail=>.fail)|false=>match f28nv (x.1,(x.2.1,(x.2.2.2.2.1,()))) with | .ret r_57=>(match f27nv (r_57,(x.2.2.1,())) with | .ret r_59=>(match (!r_59) with|true=>(match f14v () with | .ret r=>.ret r | .pan p=>.pan p | .fail=>.fail)|false=>match f20nv (r_25.1,(x.2.2.2.2.1,())) with | .ret r_63=>(match r_63 with|true=>(match f14v () with | .ret r=>.ret r | .pan p=>.pan p | .fail=>.fail)|false=>.ret false) | .pan p=>.pan p | .fail=>.fail) | .pan p=>.pan p | .fail=>.fail) | .pan p=>.pan p | .fail=>.fail) | .pan p=>.pan p | .fail=>.fail) | .pan p=>.pan p | .fail=>.fail) | .pan p=>.pan p | .fail=>.fail) | .pan p=>.pan p | .fail=>.fail) | .pan p=>.pan p | .fail=>.fail) | .pan p=>.pan p | .fail=>.fail) | .pan p=>.pan p | .fail=>.fail) | .pan p=>.pan p | .fail=>.fail) | .pan p=>.pan p | .fail=>.fail
theorem e6 (N:Nat) (x:((Int×((List (Int×((List Int)×Unit)))×Unit))×((List (List Int))×((List Int)×(Int×((List Int)×Unit)))))):vfn Tryz.prog (phi specs6) hints6 N Tryz.f6 false false (.prod (.prod (.int .i64) (.prod (.list (.prod (.int .i64) (.prod (.list (.int .i64)) .unit))) .unit)) (.prod (.list (.list (.int .i64))) (.prod (.list (.int .i64)) (.prod (.int .i64) (.prod (.list (.int .i64)) .unit))))) .bool x=F6 N x:=by kernel_rfl
def f6 (x:((Int×((List (Int×((List Int)×Unit)))×Unit))×((List (List Int))×((List Int)×(Int×((List Int)×Unit)))))):Out Bool:=F6 fuel x
def sp6:Spec:=⟨6,.call,(.prod (.prod (.int .i64) (.prod (.list (.prod (.int .i64) (.prod (.list (.int .i64)) .unit))) .unit)) (.prod (.list (.list (.int .i64))) (.prod (.list (.int .i64)) (.prod (.int .i64) (.prod (.list (.int .i64)) .unit))))),.bool,false,false,f6⟩
theorem c6:Contract Tryz.prog sp6:=contract_at (l:=specs6) (arg:=(.prod (.prod (.int .i64) (.prod (.list (.prod (.int .i64) (.prod (.list (.int .i64)) .unit))) .unit)) (.prod (.list (.list (.int .i64))) (.prod (.list (.int .i64)) (.prod (.int .i64) (.prod (.list (.int .i64)) .unit)))))) (res:=.bool) (multi:=false) (own:=false) (F:=f6) mixed (all_cons c22v (all_cons c14v (all_cons c31v (all_cons c32v (all_cons c16nv (all_cons c51v (all_cons c28nv (all_cons c27nv (all_cons c20nv all_nil))))))))) Tryz.func6 rfl hints6 fun x _=>⟨fuel,e6 fuel x⟩
end Go.V
namespace Go.V
open Go.Proofs
def mend (t:TREE) (s:List (List Int)) (B:List Int) (prev:List (List Int)) (i:Nat):List Int:=if (i:Int)∈B then prev.getD (parentAt t i).toNat [] else s.getD i []
def madeTo (t:TREE) (s:List (List Int)) (B:List Int):Nat->List (List Int)
 | 0=>[]
 | i+1=>madeTo t s B i++[mend t s B (madeTo t s B i) i]
theorem mend_len (t:TREE) (s:List (List Int)) (B:List Int):∀ n,(madeTo t s B n).length=n
 | 0=>rfl
 | n+1=>by rw [madeTo,List.length_append,mend_len t s B n];rfl
theorem made_at (t:TREE) (s:List (List Int)) (B:List Int):∀ (n i:Nat),i<n->(madeTo t s B n).getD i []=mend t s B (madeTo t s B i) i
 | 0,i,h=>by omega
 | n+1,i,h=>by
  rw [madeTo,List.getD_eq_getElem?_getD]
  by_cases e:i=n
  . subst e;rw [List.getElem?_append_right (by rw [mend_len];exact Nat.le_refl _),mend_len,Nat.sub_self];rfl
  . rw [List.getElem?_append_left (by rw [mend_len];omega),<- List.getD_eq_getElem?_getD,made_at t s B n i (by omega)]
theorem made_eq {t:TREE} (s:List (List Int)) (B:List Int) {n i:Nat} (h:i<n) (hp:parN t i<i):(madeTo t s B n).getD i []=if (i:Int)∈B then (madeTo t s B n).getD (parN t i) [] else s.getD i []:=by
 rw [made_at t s B n i h,made_at t s B n (parN t i) (by omega),<- made_at t s B i (parN t i) hp];rfl
theorem made_zero {t:TREE} (s:List (List Int)) {B:List Int} (hB:(0:Int) ∉ B) {n:Nat} (h:0<n):(madeTo t s B n).getD 0 []=s.getD 0 []:=by
 rw [made_at t s B n 0 h];exact if_neg hB
theorem made_row {t:TREE} (ht:TreeOK t) {s:List (List Int)} (hs:StoryOK t s) {B:List Int} (hB:(0:Int) ∉ B):∀ i:Nat,i<s.length->((madeTo t s B s.length).getD i []).length<=3:=by
 have hsl:=hs.len;have hP:=ht.places;have:∀ k i:Nat,i<=k->i<s.length->((madeTo t s B s.length).getD i []).length<=3:=by
  intro k
  induction k with
  | zero =>
   intro i h1 h2;have:i=0:=by omega
   subst this;rw [made_zero s hB h2];have:=(hs.row 0 h2).len;omega
  | succ k ih =>
   intro i h1 h2
   by_cases e:i=0
   . subst e;rw [made_zero s hB h2];have:=(hs.row 0 h2).len;omega
   . have hp:=ht.par_lt (show 0<i by omega) (show i<t.2.1.length by omega);rw [made_eq s B h2 hp];split
     . exact ih _ (by omega) (by omega)
     . have:=(hs.row i h2).len;omega
 exact fun i h=>this i i (Nat.le_refl _) h
theorem f28n_at {t:TREE} (ht:TreeOK t) {s:List (List Int)} (hs:StoryOK t s) {B:List Int} (hB:(0:Int) ∉ B) (hl:B.length<1000000):f28n (t,(s,(B,()))) = .ret (madeTo t s B s.length):=by
 have hfb:=fuel_big;have hcc:=ht.copies;have hsl:=hs.len;have hP:=ht.places;unfold f28n F28n;have key:=runL (L:=fun n k=>L28n_0 fuel n (t,(s,(B,()))) (madeTo t s B k) k) (len:=s.length) (K:=.ret (madeTo t s B s.length)) (fun n k hk=>?_) (fun n=>?_) s.length fuel 0 (by omega) (by omega)
 . exact key
 . try dsimp only
   rw [L28n_0_succ]
   try delta lenI
   have hml:=mend_len t s B k;have hrow:=(hs.row k hk).len;have e:madeTo t s B (k+1)=madeTo t s B k++[mend t s B (madeTo t s B k) k]:=rfl;rw [e];simp only [dT (show (k:Int)<s.length by omega),f23_at _ _ hl,wn (show k<1000000000 by omega),inbT (show (0:Int)<=k by omega) (show (k:Int)<s.length by omega),inbT (show (0:Int)<=k by omega) (show (k:Int)<t.2.1.length by omega),cond_true,Int.toNat_natCast]
   unfold mend
   by_cases g:(k:Int)∈B
   . have hk0:0<k:=by
      rcases Nat.eq_zero_or_pos k with h|h
      . subst h;exact absurd g hB
      . exact h
     have hu:=up_in ht (n:=(k:Int)) (by omega) (by omega);have e2:(t.2.1.getD k NODE0).1=parentAt t k:=rfl;rw [Int.toNat_natCast] at hu;have hp:=ht.par_lt hk0 (show k<t.2.1.length by omega);have hr3:((madeTo t s B k).getD (parentAt t k).toNat []).length<=3:=by
      have h3:parN t k<k:=hp;have h4:=made_row ht hs hB (parN t k) (by omega);rw [made_at t s B s.length (parN t k) (by omega),<- made_at t s B k (parN t k) hp] at h4;exact h4
     have h5:(parentAt t k).toNat<k:=hp;simp only [dT g,if_pos g,e2,inbT (show (0:Int)<=parentAt t k by omega) (show parentAt t k<(madeTo t s B k).length by omega),cond_true];rw [fitsT (xs:=([]:List Int)) (ys:=(madeTo t s B k).getD (parentAt t k).toNat []) (by simp only [List.length_nil];omega),fitsT (xs:=madeTo t s B k) (ys:=[(madeTo t s B k).getD (parentAt t k).toNat []]) (by simp only [List.length_cons,List.length_nil];omega)]
     rfl
   . simp only [dF g,if_neg g];rw [fitsT (xs:=([]:List Int)) (ys:=s.getD k []) (by simp only [List.length_nil];omega),fitsT (xs:=madeTo t s B k) (ys:=[s.getD k []]) (by simp only [List.length_cons,List.length_nil];omega)]
     rfl
 . try dsimp only
   rw [L28n_0_succ]
   try delta lenI
   simp only [dF (show ¬ ((s.length:Nat):Int)<s.length by omega)]
def fineT (d:List (List Int)) (l:List Int):Prop:=∀ x∈l,d.getD x.toNat []=d.getD 0 []
instance (d:List (List Int)) (l:List Int):Decidable (fineT d l):=by unfold fineT;infer_instance
theorem f27n_at {t:TREE} {l:List Int} (hh:HandsOK t l) (hll:l.length<1000000) {d:List (List Int)} (hd:d.length=t.2.1.length) (h0:0<d.length) (hr:∀ i:Nat,i<d.length->(d.getD i []).length<=3):f27n (d,(l,())) = .ret (decide (fineT d l)):=by
 have hfb:=fuel_big;unfold f27n F27n;have hg:∀ i,i<l.length->OneHand t (l.getD i 0):=fun i hi=>hands_hand hh _ (getD_mem hi)
 have key:=findL (L:=fun n i=>L27n_0 fuel n (d,(l,())) i) (len:=l.length) (K:=.ret true) (fun i=>¬ d.getD (l.getD i 0).toNat []=d.getD 0 []) (fun _=>.ret false) (fun n i hi=>?_) (fun n=>?_) l.length fuel 0 (by omega) (by omega)
 . rcases key with ⟨j,h1,h2,h3,h4,h5⟩|⟨h1,h2⟩
   . rw [show L27n_0 fuel fuel (d,(l,())) 0=_ from h5,dF (show ¬ fineT d l from fun h=>h3 (h _ (getD_mem h2)))]
   . rw [show L27n_0 fuel fuel (d,(l,())) 0=_ from h2,dT (show fineT d l from fun x hx=>?_)];obtain ⟨i,hi,rfl⟩:=mem_getD hx;exact Classical.byContradiction (h1 i (Nat.zero_le _) hi)
 . try dsimp only
   rw [L27n_0_succ]
   try delta lenI
   have h3:=hg i hi;have h4:=h3.1;have h5:=h3.2.h;have h6:=hr (l.getD i 0).toNat (by omega);simp only [dT (show (i:Int)<l.length by omega),inbT (show (0:Int)<=i by omega) (show (i:Int)<l.length by omega),inbT (show (0:Int)<=l.getD i 0 by omega) (show l.getD i 0<d.length by omega),inbT (Int.le_refl 0) (show (0:Int)<d.length by omega),cond_true,Int.toNat_natCast,show (0:Int).toNat=0 from rfl,f19_at (d.getD (l.getD i 0).toNat []) (d.getD 0 []) (by omega),wn (show i<1000000000 by omega)]
   by_cases g:d.getD (l.getD i 0).toNat []=d.getD 0 []
   . simp only [dT g,Bool.not_true];exact .inr ⟨fun h=>h g,trivial⟩
   . simp only [dF g,Bool.not_false];exact .inl ⟨g,trivial⟩
 . try dsimp only
   rw [L27n_0_succ]
   try delta lenI
   simp only [dF (show ¬ ((l.length:Nat):Int)<l.length by omega)]
theorem up_off {t:TREE} (ht:TreeOK t) (s:List (List Int)):∀ n:Int,0<=n->n<t.2.1.length->∀ c∈upTo t s n,¬ s.getD c.toNat []=s.getD 0 []:=by
 refine path_ind ht (P:=fun n=>∀ c∈upTo t s n,¬ s.getD c.toNat []=s.getD 0 []) ?_ ?_
 . intro c hc;rw [up_zero] at hc;cases hc
 . intro n h0 hn ih c hc;rw [up_head ht s h0 hn] at hc;split at hc
   . cases hc
   . rename_i h;rcases List.mem_cons.1 hc with rfl|hc
     . exact h
     . exact ih c hc
theorem par_nat {t:TREE} (ht:TreeOK t) {n:Int} (h0:0<n) (hn:n<t.2.1.length):parentAt t n.toNat=((parN t n.toNat:Nat):Int)/\parN t n.toNat<n.toNat:=by
 have hu:=up_in ht h0 hn;have hp:=ht.par_lt (show 0<n.toNat by omega) (show n.toNat<t.2.1.length by omega);unfold parN at hp ⊢;omega
theorem fine_of {t:TREE} (ht:TreeOK t) {s:List (List Int)} (hs:StoryOK t s) {B:List Int} (hB:(0:Int) ∉ B) (ho:∀ c∈B,¬ s.getD c.toNat []=s.getD 0 []):∀ n:Int,0<=n->n<t.2.1.length->(∀ c∈upTo t s n,c∈B)->(madeTo t s B s.length).getD n.toNat []=s.getD 0 []:=by
 have hsl:=hs.len;have hcc:=ht.copies;refine path_ind ht (P:=fun n=>(∀ c∈upTo t s n,c∈B)->(madeTo t s B s.length).getD n.toNat []=s.getD 0 []) ?_ ?_
 . intro _;exact made_zero s hB (by omega)
 . intro n h0 hn ih hc;obtain ⟨e1,e2⟩:=par_nat ht h0 hn;rw [made_eq s B (show n.toNat<s.length by omega) e2,show ((n.toNat:Nat):Int)=n by omega];rw [up_head ht s h0 hn] at hc
   by_cases g:s.getD n.toNat []=s.getD 0 []
   . rw [if_neg fun h=>ho n h g,g]
   . rw [if_neg g] at hc;rw [if_pos (hc n List.mem_cons_self)];have:=ih fun c h=>hc c (List.mem_cons_of_mem _ h)
     rwa [e1,Int.toNat_natCast] at this
theorem of_fine {t:TREE} (ht:TreeOK t) {s:List (List Int)} (hs:StoryOK t s) {B:List Int}:∀ n:Int,0<=n->n<t.2.1.length->(madeTo t s B s.length).getD n.toNat []=s.getD 0 []->∀ c∈upTo t s n,c∈B:=by
 have hsl:=hs.len;have hcc:=ht.copies;refine path_ind ht (P:=fun n=>(madeTo t s B s.length).getD n.toNat []=s.getD 0 []->∀ c∈upTo t s n,c∈B) ?_ ?_
 . intro _ c hc;rw [up_zero] at hc;cases hc
 . intro n h0 hn ih hf c hc;obtain ⟨e1,e2⟩:=par_nat ht h0 hn;rw [made_eq s B (show n.toNat<s.length by omega) e2,show ((n.toNat:Nat):Int)=n by omega] at hf;rw [up_head ht s h0 hn] at hc
   by_cases g:s.getD n.toNat []=s.getD 0 []
   . rw [if_pos g] at hc;cases hc
   . rw [if_neg g] at hc
     by_cases h:n∈B
     . rw [if_pos h] at hf;rcases List.mem_cons.1 hc with rfl|hc
       . exact h
       . exact ih (by rw [e1,Int.toNat_natCast];exact hf) c hc
     . rw [if_neg h] at hf;exact absurd hf g
theorem mem_again {t:TREE} (ht:TreeOK t) {s:List (List Int)} {l:List Int} (hh:HandsOK t l) {c:Int}:c∈againT t s l<->∃ h∈l,c∈upTo t s h:=by
 unfold againT;rw [List.mem_filter,mem_allTo,decide_eq_true_eq,again_mem];refine ⟨fun h=>h.2,fun ⟨h,h1,h2⟩=>⟨?_,h,h1,h2⟩⟩;have hc:=(hands_mem hh h1).2;have:=path_mem ht hc.l hc.h (mem_takeWhile h2);exact ⟨this.1,by have:=hc.h;omega⟩
theorem again_hands {t:TREE} (ht:TreeOK t) {s:List (List Int)} {l:List Int} (hh:HandsOK t l):HandsOK t (againT t s l):=by
 refine hands_of (fun x hx=>?_) ((allTo_strict _).sublist List.filter_sublist);obtain ⟨h,h1,h2⟩:=(mem_again ht hh).1 hx;have hc:=(hands_mem hh h1).2;have h3:=path_mem ht hc.l hc.h (mem_takeWhile h2);have h4:=up_pos ht s h hc.l hc.h
 have:x≠0:=fun e=>h4 (e ▸ h2)
 exact ⟨by omega,⟨h3.1,by have:=hc.h;omega⟩⟩
theorem hands_zero {t:TREE} {l:List Int} (h:HandsOK t l):(0:Int) ∉ l:=fun h0=>by have:=(hands_mem h h0).1;omega
theorem hands_short {t:TREE} (ht:TreeOK t) {l:List Int} (h:HandsOK t l):l.length<t.2.1.length:=by
 have hcc:=ht.copies
 by_cases e:l.length=0
 . omega
 . have h1:=hands_ge h (l.length - 1) (by omega);have h2:=(h (l.length - 1) (by omega)).hi;omega
theorem fine_sub {t:TREE} (ht:TreeOK t) {s:List (List Int)} (hs:StoryOK t s) {l B:List Int} (hh:HandsOK t l) (hB:(0:Int) ∉ B) (hf:fineT (madeTo t s B s.length) l):∀ c∈againT t s l,c∈B:=fun c hc=>by
 have hsl:=hs.len;have hcc:=ht.copies;obtain ⟨h,h1,h2⟩:=(mem_again ht hh).1 hc;have hd:=(hands_mem hh h1).2;exact of_fine ht hs h hd.l hd.h (by rw [hf h h1];exact made_zero s hB (by omega)) c h2
theorem fine_all {t:TREE} (ht:TreeOK t) {s:List (List Int)} (hs:StoryOK t s) {l:List Int} (hh:HandsOK t l):fineT (madeTo t s (againT t s l) s.length) l:=fun x hx=>by
 have hsl:=hs.len;have hcc:=ht.copies;have hz:=hands_zero (again_hands ht (s:=s) hh);have hd:=(hands_mem hh hx).2;rw [made_zero s hz (by omega)];refine fine_of ht hs hz (fun c hc=>?_) x hd.l hd.h fun c hc=>(mem_again ht hh).2 ⟨x,hx,hc⟩
 obtain ⟨h,h1,h2⟩:=(mem_again ht hh).1 hc;have hd2:=(hands_mem hh h1).2;exact up_off ht s h hd2.l hd2.h c h2
theorem law6 (t:TREE) (s:List (List Int)) (l:List Int) (k:Int) (more:List Int):f6 (t,(s,(l,(k,(more,()))))) = .ret true:=by
 show F6 fuel (t,(s,(l,(k,(more,())))))=_;unfold F6;obtain ⟨d,h31⟩:=f31_at s;simp only [f22v_eq,f31v_eq,f32v_eq,f16nv_eq,f51v_eq,f28nv_eq,f27nv_eq,f20nv_eq];rcases f22_at t with h22|⟨h22,ht⟩
 . simp only [h22,nf,known_true]
 simp only [h22,nt,h31];cases d with
 | false=>simp only [nf,known_true]
 | true =>
 simp only [nt];rcases story_ret ht s with ⟨hs,h32,_⟩|⟨hs,h32,_⟩
 rotate_left
 . simp only [h32,nf,known_true]
 simp only [h32,nt]
 by_cases hl:lenI l > 10
 . simp only [dT hl,known_true]
 have hll:l.length<1000000:=by have h2:¬ ((l.length:Int) > 10):=hl;omega
 simp only [dF hl]
 by_cases hh:HandsOK t l
 rotate_left
 . simp only [f16n_no ht hll hh,nf,known_true]
 simp only [f16n_yes ht hh,nt]
 by_cases hq:lenI more > 10
 . simp only [dT hq,known_true]
 have hml:more.length<1000000:=by have h2:¬ ((more.length:Int) > 10):=hq;omega
 simp only [dF hq]
 by_cases hm:HandsOK t more
 rotate_left
 . simp only [f16n_no ht hml hm,nf,known_true]
 have hsl:=hs.len;have hcc:=ht.copies;have hA:=again_hands ht (s:=s) hh;have hAz:=hands_zero hA;have hAs:=hands_short ht hA;have hfine:∀ B:List Int,(0:Int) ∉ B->B.length<1000000->f28n (t,(s,(B,()))) = .ret (madeTo t s B s.length)/\f27n (madeTo t s B s.length,(l,())) = .ret (decide (fineT (madeTo t s B s.length) l)):=fun B h1 h2 =>
  ⟨f28n_at ht hs h1 h2,f27n_at hh hll (by rw [mend_len];exact hsl) (by rw [mend_len];omega) fun i hi=>made_row ht hs h1 i (by rw [mend_len] at hi;exact hi)⟩
 obtain ⟨a1,a2⟩:=hfine _ hAz (by omega);obtain ⟨b1,b2⟩:=hfine _ (hands_zero hm) hml;have e0:(lenI (againT t s l) >= lenI t.2.1)=False:=eq_false fun h=>by have h2:((againT t s l).length:Int) >= t.2.1.length:=h;omega
 simp only [f16n_yes ht hm,nt,f51_at ht hs hh,n00,e0,decide_false,f16n_yes ht hA,a1,a2,dT (fine_all ht hs hh),b1,b2,f20n_at (a:=againT t s l) more (by omega) hml];have fin:∀ c:Bool,(c=true->∀ x∈againT t s l,x∈more)->(match !c with
  | true=>match f14v () with
   | .ret r=>.ret r
   | .pan p=>.pan p
   | .fail=>.fail
  | false=>match (.ret (decide (∀ x∈againT t s l,x∈more)):Out Bool) with
   | .ret r=>match r with
    | true=>match f14v () with
     | .ret r=>.ret r
     | .pan p=>.pan p
     | .fail=>.fail
    | false=>.ret false
   | .pan p=>.pan p
   | .fail=>.fail:Out Bool) = .ret true:=fun c hc=>by
  cases c with
  | false=>simp only [nf,known_true]
  | true=>simp only [nt,dT (hc rfl),known_true]
 have fin2:=fin (decide (fineT (madeTo t s more s.length) l)) fun h=>fine_sub ht hs hh (hands_zero hm) (of_decide_eq_true h)
 simp only [] at fin2
 by_cases k0:k >= 0
 rotate_left
 . simp only [dF k0];exact fin2
 by_cases k1:k<lenI (againT t s l)
 rotate_left
 . simp only [dT k0,dF k1];exact fin2
 have k2:k<((againT t s l).length:Int):=k1;have ew:IntKind.i64.wrap (k+1)=k+1:=wr (by omega) (by omega);have hsub:∀ x,x∈cut (againT t s l) 0 k++cut (againT t s l) (k+1) (lenI (againT t s l))->x∈(againT t s l).take k.toNat\/x∈(againT t s l).drop (k.toNat+1):=fun x hx=>by
  rcases List.mem_append.1 hx with h|h
  . left;unfold cut at h
    simpa using h
  . right;unfold cut at h;have:=List.mem_of_mem_take h
    rwa [show (k+1).toNat=k.toNat+1 by omega] at this
 have hl1:(cut (againT t s l) 0 k).length<=(againT t s l).length:=by unfold cut;rw [List.length_take,List.length_drop];omega
 have hl2:(cut (againT t s l) (k+1) (lenI (againT t s l))).length<=(againT t s l).length:=by unfold cut;rw [List.length_take,List.length_drop];omega
 have hz:(0:Int) ∉ cut (againT t s l) 0 k++cut (againT t s l) (k+1) (lenI (againT t s l)):=fun h=>by
  rcases hsub 0 h with h|h
  . exact hAz (List.mem_of_mem_take h)
  . exact hAz (List.mem_of_mem_drop h)
 obtain ⟨c1,c2⟩:=hfine _ hz (by rw [List.length_append];omega);have hno:¬ fineT (madeTo t s (cut (againT t s l) 0 k++cut (againT t s l) (k+1) (lenI (againT t s l))) s.length) l:=fun h=>by
  have h1:=fine_sub ht hs hh hz h;have hkl:k.toNat<(againT t s l).length:=by omega
  have h2:=h1 ((againT t s l).getD k.toNat 0) (getD_mem hkl);have hup:=hands_up hA;rcases hsub _ h2 with h3|h3
  . obtain ⟨i,hi,e⟩:=mem_getD h3;rw [List.length_take] at hi;have e2:((againT t s l).take k.toNat).getD i 0=(againT t s l).getD i 0:=by
     rw [List.getD_eq_getElem?_getD,List.getElem?_take,if_pos (by omega),<- List.getD_eq_getElem?_getD]
    have:=getD_pw hup (show i<k.toNat by omega) hkl;omega
  . obtain ⟨i,hi,e⟩:=mem_getD h3;rw [List.length_drop] at hi;have e2:((againT t s l).drop (k.toNat+1)).getD i 0=(againT t s l).getD (k.toNat+1+i) 0:=by
     rw [List.getD_eq_getElem?_getD,List.getElem?_drop,<- List.getD_eq_getElem?_getD]
    have:=getD_pw hup (show k.toNat<k.toNat+1+i by omega) (show k.toNat+1+i<(againT t s l).length by omega);omega
 have o1:cutOk 0 k (lenI (againT t s l))=true:=by
  unfold cutOk;rw [dT (Int.le_refl 0),dT (show (0:Int)<=k by omega),dT (show k<=lenI (againT t s l) from (show k<=((againT t s l).length:Int) by omega))];rfl
 have o2:cutOk (k+1) (lenI (againT t s l)) (lenI (againT t s l))=true:=by
  unfold cutOk;rw [dT (show (0:Int)<=k+1 by omega),dT (show k+1<=lenI (againT t s l) from (show k+1<=((againT t s l).length:Int) by omega)),dT (Int.le_refl _)];rfl
 simp only [dT k0,dT k1,ew,o1,o2,cond_true,fitsT (xs:=([]:List Int)) (ys:=cut (againT t s l) 0 k) (by simp only [List.length_nil];omega),fitsT (xs:=cut (againT t s l) 0 k) (ys:=cut (againT t s l) (k+1) (lenI (againT t s l))) (by omega),c1,c2,dF hno]
 exact fin2
end Go.V
end
