/- What law 8 of the copies needs beyond what all laws need: functions read, and the plain law. -/
import Derived.Test.YtmkbnifehdhbbabGreatDoorQL
import Derived.Test.YtmkbnifehdhbbabGreatDoorCR2
import Derived.Test.YtmkbnifehdhbbabGreatDoorCRA
set_option linter.all false
noncomputable section
namespace Go.V
open Go.Proofs
def specs13:List Spec:=[]
def hints13:List (Nat×List Nat):=[(2,[1,3])]
def L13_0 (N:Nat) (n_L13_0:Nat) (x:lt1) (i_1:Int):Out Bool :=
 vloop Tryz.prog (phi specs13) hints13 N Tryz.f12 false false .bool [.at 1,.at 0,.at 1,.at 0] n_L13_0 [U,.box [.d (.int .i64) x.1.1,.d ty0 x.1.2.1],U,.d (.int .i64) i_1,U,U,U,U,U,U,U,U,U,U,U,U,U,U,U,U,U,U,U,U,U,U,U]
theorem L13_0_succ (N:Nat) (n_L13_0:Nat) (x:lt1) (i_1:Int):L13_0 N  (n_L13_0+1) x i_1 =
 (match (decide (i_1<(lenI x.1.2.1))) with|true=>(match (decide (i_1<10)) with|true=>bif (inb i_1 x.1.2.1.length) then match (decide ((lenI ((List.getD x.1.2.1 i_1.toNat (0,([],())))).2.1) > 5)) with|true=>.ret false|false=>L13_0 N n_L13_0 x (IntKind.i64.wrap (i_1+1)) else .fail|false=>.ret (decide ((lenI x.1.2.1)<=10)))|false=>.ret (decide ((lenI x.1.2.1)<=10)):Out Bool):=by kernel_rfl
def F13 (N:Nat) (x:lt1):Out Bool:=L13_0 N N x 0
theorem e13 (N:Nat) (x:lt1):vfn Tryz.prog (phi specs13) hints13 N Tryz.f12 false false ty2 .bool x=F13 N x:=by kernel_rfl
def f13 (x:lt1):Out Bool:=F13 fuel x
def sp13:Spec:=⟨12,.call,ty2,.bool,false,false,f13⟩
theorem c13:Contract Tryz.prog sp13:=contract_at (l:=specs13) (arg:=ty2) (res:=.bool) (multi:=false) (own:=false) (F:=f13) mixed all_nil Tryz.func12 rfl hints13 fun x _=>⟨fuel,e13 fuel x⟩
def specs31:List Spec:=[]
def hints31:List (Nat×List Nat):=[(2,[0,3])]
def L31_0 (N:Nat) (n_L31_0:Nat) (x:((List (List Int))×Unit)) (i_1:Int):Out Bool :=
 vloop Tryz.prog (phi specs31) hints31 N Tryz.f23 false false .bool [.at 1,.at 0,.at 1,.at 0] n_L31_0 [.d ty1 x.1,U,U,.d (.int .i64) i_1,U,U,U,U,U,U,U,U,U,U,U,U,U,U,U,U,U,U,U]
theorem L31_0_succ (N:Nat) (n_L31_0:Nat) (x:((List (List Int))×Unit)) (i_1:Int):L31_0 N  (n_L31_0+1) x i_1 =
 (match (decide (i_1<(lenI x.1))) with|true=>(match (decide (i_1<12)) with|true=>bif (inb i_1 x.1.length) then match (decide ((lenI (List.getD x.1 i_1.toNat [])) > 5)) with|true=>.ret false|false=>L31_0 N n_L31_0 x (IntKind.i64.wrap (i_1+1)) else .fail|false=>.ret (decide ((lenI x.1)<=10)))|false=>.ret (decide ((lenI x.1)<=10)):Out Bool):=by kernel_rfl
def F31 (N:Nat) (x:((List (List Int))×Unit)):Out Bool:=L31_0 N N x 0
theorem e31 (N:Nat) (x:((List (List Int))×Unit)):vfn Tryz.prog (phi specs31) hints31 N Tryz.f23 false false (.prod (.list (.list (.int .i64))) .unit) .bool x=F31 N x:=by kernel_rfl
def f31 (x:((List (List Int))×Unit)):Out Bool:=F31 fuel x
def sp31:Spec:=⟨23,.call,(.prod (.list (.list (.int .i64))) .unit),.bool,false,false,f31⟩
theorem c31:Contract Tryz.prog sp31:=contract_at (l:=specs31) (arg:=(.prod (.list (.list (.int .i64))) .unit)) (res:=.bool) (multi:=false) (own:=false) (F:=f31) mixed all_nil Tryz.func23 rfl hints31 fun x _=>⟨fuel,e31 fuel x⟩
def specs61:List Spec:=[]
def hints61:List (Nat×List Nat):=[]
theorem e61 (N:Nat) (x:(Int×(Int×(Int×Unit)))):vfn Tryz.prog (phi specs61) hints61 N Tryz.f60 false false ty10 .bool x=F61 N x:=by kernel_rfl
theorem c61:Contract Tryz.prog sp61:=contract_at (l:=specs61) (arg:=ty10) (res:=.bool) (multi:=false) (own:=false) (F:=f61) mixed all_nil Tryz.func60 rfl hints61 fun x _=>⟨fuel,e61 fuel x⟩
def specs46:List Spec:=[sp61]
def hints46:List (Nat×List Nat):=[]
theorem e46 (N:Nat) (x:(Int×Unit)):vfn Tryz.prog (phi specs46) hints46 N Tryz.f31 false false (.prod (.int .i64) .unit) .bool x=F46 N x:=by kernel_rfl
theorem c46:Contract Tryz.prog sp46:=contract_at (l:=specs46) (arg:=(.prod (.int .i64) .unit)) (res:=.bool) (multi:=false) (own:=false) (F:=f46) mixed (all_cons c61 all_nil) Tryz.func31 rfl hints46 fun x _=>⟨fuel,e46 fuel x⟩
theorem e17 (N:Nat) (x:lt1):vfn Tryz.prog (phi specs17) hints17 N Tryz.f15 false false ty2 .bool x=F17 N x:=by kernel_rfl
def sp17:Spec:=⟨15,.call,ty2,.bool,false,false,f17⟩
theorem c17:Contract Tryz.prog sp17:=contract_at (l:=specs17) (arg:=ty2) (res:=.bool) (multi:=false) (own:=false) (F:=f17) mixed (all_cons c61 (all_cons c46 all_nil)) Tryz.func15 rfl hints17 fun x _=>⟨fuel,e17 fuel x⟩
theorem e32 (N:Nat) (x:lt3):vfn Tryz.prog (phi specs32) hints32 N Tryz.f25 false false ty4 .bool x=F32 N x:=by kernel_rfl
def sp32:Spec:=⟨25,.call,ty4,.bool,false,false,f32⟩
theorem c32:Contract Tryz.prog sp32:=contract_at (l:=specs32) (arg:=ty4) (res:=.bool) (multi:=false) (own:=false) (F:=f32) mixed (all_cons c46 all_nil) Tryz.func25 rfl hints32 fun x _=>⟨fuel,e32 fuel x⟩
end Go.V
namespace Go.V
open Go.Proofs
theorem f13_at (t:TREE):∃ b,f13 (t,()) = .ret b:=by
 have hfb:=fuel_big;unfold f13 F13;have done:∀ n i:Nat,¬ (i:Int)<t.2.1.length\/¬ i<10->∃ b,L13_0 fuel (n+1) (t,()) i = .ret b:=fun n i h=>by
  rw [L13_0_succ]
  try delta lenI
  by_cases h1:(i:Int)<t.2.1.length
  . have h2:¬ (i:Int)<10:=by rcases h with h|h<;>omega
    simp only [dT h1,dF h2];exact ⟨_,rfl⟩
  . simp only [dF h1];exact ⟨_,rfl⟩
 have loop:∀ (d n i:Nat),d<n->i+d=10->∃ b,L13_0 fuel n (t,()) i = .ret b:=by
  intro d
  induction d with
  | zero =>
   intro n i hn hi;obtain ⟨n,rfl⟩:=succ_of hn;exact done n i (.inr (by omega))
  | succ d ih =>
   intro n i hn hi;obtain ⟨n,rfl⟩:=succ_of hn
   by_cases h1:(i:Int)<t.2.1.length
   . rw [L13_0_succ]
     try delta lenI
     simp only [dT h1,dT (show (i:Int)<10 by omega),inbT (show (0:Int)<=i by omega) h1,cond_true,wn (show i<1000000000 by omega)];split
     . exact ⟨_,rfl⟩
     . exact ih n (i+1) (by omega) (by omega)
   . exact done n i (.inl h1)
 exact loop 10 fuel 0 (by omega) (by omega)
end Go.V
namespace Go.V
open Go.Proofs
theorem TreeOK.t17 {t:TREE} (h:TreeOK t):f17 (t,()) = .ret true:=by
 rcases tree_ret (t:=t) with ⟨_,h1,_⟩|⟨h1,_⟩
 . exact h1
 . exact absurd h h1
theorem no17 {t:TREE} (h:¬ TreeOK t):f17 (t,()) = .ret false:=by
 rcases tree_ret (t:=t) with ⟨h1,_⟩|⟨_,h1,_⟩
 . exact absurd h1 h
 . exact h1
theorem no55 {t:TREE} (h:¬ TreeOK t):f55 (t,()) = .ret false:=by
 rcases tree_ret (t:=t) with ⟨h1,_⟩|⟨_,_,h1⟩
 . exact absurd h1 h
 . exact h1
theorem f31_at (s:List (List Int)):∃ b,f31 (s,()) = .ret b:=by
 have hfb:=fuel_big;unfold f31 F31;have done:∀ n i:Nat,¬ (i:Int)<s.length\/¬ i<12->∃ b,L31_0 fuel (n+1) (s,()) i = .ret b:=fun n i h=>by
  rw [L31_0_succ]
  try delta lenI
  by_cases h1:(i:Int)<s.length
  . have h2:¬ (i:Int)<12:=by rcases h with h|h<;>omega
    simp only [dT h1,dF h2];exact ⟨_,rfl⟩
  . simp only [dF h1];exact ⟨_,rfl⟩
 have loop:∀ (d n i:Nat),d<n->i+d=12->∃ b,L31_0 fuel n (s,()) i = .ret b:=by
  intro d
  induction d with
  | zero =>
   intro n i hn hi;obtain ⟨n,rfl⟩:=succ_of hn;exact done n i (.inr (by omega))
  | succ d ih =>
   intro n i hn hi;obtain ⟨n,rfl⟩:=succ_of hn
   by_cases h1:(i:Int)<s.length
   . rw [L31_0_succ]
     try delta lenI
     simp only [dT h1,dT (show (i:Int)<12 by omega),inbT (show (0:Int)<=i by omega) h1,cond_true,wn (show i<1000000000 by omega)];split
     . exact ⟨_,rfl⟩
     . exact ih n (i+1) (by omega) (by omega)
   . exact done n i (.inl h1)
 exact loop 12 fuel 0 (by omega) (by omega)
theorem f33_no {t:TREE} {s:List (List Int)} (h:¬ (TreeOK t/\StoryOK t s)):f33 (t,(s,())) = .ret ([],(2,())):=by
 unfold f33 F33;rcases tree_ret (t:=t) with ⟨h1,_,h2⟩|⟨h1,_,h2⟩
 . simp only [h2,Bool.not_true];rcases story_ret h1 s with ⟨h3,_⟩|⟨_,_,h3⟩
   . exact absurd ⟨h1,h3⟩ h
   . simp only [h3,Bool.not_false]
 . simp only [h2,Bool.not_false]
end Go.V
namespace Go.V
open Go.Proofs
theorem runL1 {ρ:Type} {L:Nat->Nat->Out ρ} {len lo:Nat} {K:Out ρ} (step:∀ n i:Nat,lo<=i->i<len->L (n+1) i=L n (i+1)) (done:∀ n,L (n+1) len=K):∀ (m n i:Nat),lo<=i->m<n->i+m=len->L n i=K
 | 0,n,i,h0,h1,h2=>by
  obtain ⟨n,rfl⟩:=succ_of h1;rw [show i=len by omega,done]
 | m+1,n,i,h0,h1,h2=>by
  obtain ⟨n,rfl⟩:=succ_of (show 0<n by omega);rw [step n i h0 (by omega),runL1 step done m n (i+1) (by omega) (by omega) (by omega)]
end Go.V
namespace Go.V
open Go.Proofs
@[irreducible] def f13v:lt1->Out Bool:=veil f13
theorem f13v_eq:f13v=f13:=by unfold f13v;exact veil_eq f13
def sp13v:Spec:=⟨12,.call,ty2,.bool,false,false,f13v⟩
theorem c13v:Contract Tryz.prog sp13v:=by
 unfold sp13v
 rw [f13v_eq]
 exact c13
@[irreducible] def f17v:lt1->Out Bool:=veil f17
theorem f17v_eq:f17v=f17:=by unfold f17v;exact veil_eq f17
def sp17v:Spec:=⟨15,.call,ty2,.bool,false,false,f17v⟩
theorem c17v:Contract Tryz.prog sp17v:=by
 unfold sp17v
 rw [f17v_eq]
 exact c17
@[irreducible] def f31v:((List (List Int))×Unit)->Out Bool:=veil f31
theorem f31v_eq:f31v=f31:=by unfold f31v;exact veil_eq f31
def sp31v:Spec:=⟨23,.call,(.prod (.list (.list (.int .i64))) .unit),.bool,false,false,f31v⟩
theorem c31v:Contract Tryz.prog sp31v:=by
 unfold sp31v
 rw [f31v_eq]
 exact c31
@[irreducible] def f32v:lt3->Out Bool:=veil f32
theorem f32v_eq:f32v=f32:=by unfold f32v;exact veil_eq f32
def sp32v:Spec:=⟨25,.call,ty4,.bool,false,false,f32v⟩
theorem c32v:Contract Tryz.prog sp32v:=by
 unfold sp32v
 rw [f32v_eq]
 exact c32
end Go.V
namespace Go.V
open Go.Proofs
theorem b22:((2:Int)==2)=true:=rfl
theorem b00:((0:Int)==0)=true:=rfl
theorem n00:((0:Int) != 0)=false:=rfl
theorem nt:(!true)=false:=rfl
theorem nf:(!false)=true:=rfl
end Go.V
namespace Go.V
open Go.Proofs
def specs34n:List Spec:=[sp55]
def hints34n:List (Nat×List Nat):=[]
def F34n (N:Nat) (x:lt1):Out Int:=match f55 (x.1,()) with | .ret r_1=>(match (!r_1) with|true=>.ret 2|false=>.ret 0) | .pan p=>.pan p | .fail=>.fail
theorem e34n (N:Nat) (x:lt1):vfn Tryz.prog (phi specs34n) hints34n N Tryz.f34 false false ty2 (.int .i64) x=F34n N x:=by kernel_rfl
def f34n (x:lt1):Out Int:=F34n fuel x
def sp34n:Spec:=⟨34,.call,ty2,(.int .i64),false,false,f34n⟩
theorem c34n:Contract Tryz.prog sp34n:=contract_at (l:=specs34n) (arg:=ty2) (res:=(.int .i64)) (multi:=false) (own:=false) (F:=f34n) mixed (all_cons c55 all_nil) Tryz.func34 rfl hints34n fun x _=>⟨fuel,e34n fuel x⟩
def specs37n:List Spec:=[]
def hints37n:List (Nat×List Nat):=[(3,[1,2,5,6]),(6,[1,2,5,6,7])]
def L37n_1 (N:Nat) (n_L37n_0:Nat) (n_L37n_1:Nat) (x:lt3) (i_2:Int) (out_3:(List (Int×(Int×Unit)))) (p_4:Int):Out (List (Int×(Int×Unit))) :=
 vloop Tryz.prog (phi specs37n) hints37n N Tryz.f37 false true (.list (.prod (.int .i64) (.prod (.int .i64) .unit))) [.at 1,.at 1,.at 0,.at 1,.at 0,.at n_L37n_0,.at 1,.at 0,.at 0,.at 1,.at 0] n_L37n_1 [U,.d ty1 x.2.1,.box [.d (.int .i64) x.1.1,.d ty0 x.1.2.1],U,U,.own ty5 out_3 false,.d (.int .i64) i_2,.d (.int .i64) p_4,U,U,U,U,U,U,U,U,U,U,U,U,U,U,U,U,U,U,U,U,U,U,U,U,U,U,U,U,U,U,U,U,U,U,U,U,U,U,U]
def L37n_0 (N:Nat) (n_L37n_0:Nat) (x:lt3) (out_1:(List (Int×(Int×Unit)))) (i_2:Int):Out (List (Int×(Int×Unit))) :=
 vloop Tryz.prog (phi specs37n) hints37n N Tryz.f37 false true (.list (.prod (.int .i64) (.prod (.int .i64) .unit))) [.at 1,.at 1,.at 0,.at 1,.at 0] n_L37n_0 [U,.d ty1 x.2.1,.box [.d (.int .i64) x.1.1,.d ty0 x.1.2.1],U,U,.own ty5 out_1 false,.d (.int .i64) i_2,U,U,U,U,U,U,U,U,U,U,U,U,U,U,U,U,U,U,U,U,U,U,U,U,U,U,U,U,U,U,U,U,U,U,U,U,U,U,U,U]
theorem L37n_1_succ (N:Nat) (n_L37n_0:Nat) (n_L37n_1:Nat) (x:lt3) (i_2:Int) (out_3:(List (Int×(Int×Unit)))) (p_4:Int):L37n_1 N n_L37n_0 (n_L37n_1+1) x i_2 out_3 p_4 =
 (match (decide (p_4<x.1.1)) with|true=>bif (inb i_2 x.2.1.length) then bif (inb p_4 (List.getD x.2.1 i_2.toNat []).length) then bif (inb i_2 x.1.2.1.length) then bif (inb ((List.getD x.1.2.1 i_2.toNat (0,([],())))).1 x.2.1.length) then bif (inb p_4 (List.getD x.2.1 ((List.getD x.1.2.1 i_2.toNat (0,([],())))).1.toNat []).length) then match ((List.getD (List.getD x.2.1 i_2.toNat []) p_4.toNat 0) != (List.getD (List.getD x.2.1 ((List.getD x.1.2.1 i_2.toNat (0,([],())))).1.toNat []) p_4.toNat 0)) with|true=>bif (fits out_3 ([(i_2,(p_4,()))]:List (Int×(Int×Unit)))) then L37n_1 N n_L37n_0 n_L37n_1 x i_2 (out_3++([(i_2,(p_4,()))]:List (Int×(Int×Unit)))) (IntKind.i64.wrap (p_4+1)) else .fail|false=>L37n_1 N n_L37n_0 n_L37n_1 x i_2 out_3 (IntKind.i64.wrap (p_4+1)) else .fail else .fail else .fail else .fail else .fail|false=>L37n_0 N n_L37n_0 x out_3 (IntKind.i64.wrap (i_2+1)):Out (List (Int×(Int×Unit)))):=by kernel_rfl
theorem L37n_0_succ (N:Nat) (n_L37n_0:Nat) (x:lt3) (out_1:(List (Int×(Int×Unit)))) (i_2:Int):L37n_0 N  (n_L37n_0+1) x out_1 i_2 =
 (match (decide (i_2<(lenI x.2.1))) with|true=>L37n_1 N n_L37n_0 N x i_2 out_1 0|false=>.ret out_1:Out (List (Int×(Int×Unit)))):=by kernel_rfl
def F37n (N:Nat) (x:lt3):Out (List (Int×(Int×Unit))):=L37n_0 N N x ([]:List (Int×(Int×Unit))) 1
theorem e37n (N:Nat) (x:lt3):vfn Tryz.prog (phi specs37n) hints37n N Tryz.f37 false true ty4 (.list (.prod (.int .i64) (.prod (.int .i64) .unit))) x=F37n N x:=by kernel_rfl
def f37n (x:lt3):Out (List (Int×(Int×Unit))):=F37n fuel x
def sp37n:Spec:=⟨37,.call,ty4,(.list (.prod (.int .i64) (.prod (.int .i64) .unit))),false,true,f37n⟩
theorem c37n:Contract Tryz.prog sp37n:=contract_at (l:=specs37n) (arg:=ty4) (res:=(.list (.prod (.int .i64) (.prod (.int .i64) .unit)))) (multi:=false) (own:=true) (F:=f37n) mixed all_nil Tryz.func37 rfl hints37n fun x _=>⟨fuel,e37n fuel x⟩
end Go.V
namespace Go.V
open Go.Proofs
@[irreducible] def f34nv:lt1->Out Int:=veil f34n
theorem f34nv_eq:f34nv=f34n:=by unfold f34nv;exact veil_eq f34n
def sp34nv:Spec:=⟨34,.call,ty2,(.int .i64),false,false,f34nv⟩
theorem c34nv:Contract Tryz.prog sp34nv:=by
 unfold sp34nv
 rw [f34nv_eq]
 exact c34n
@[irreducible] def f37nv:lt3->Out (List (Int×(Int×Unit))):=veil f37n
theorem f37nv_eq:f37nv=f37n:=by unfold f37nv;exact veil_eq f37n
def sp37nv:Spec:=⟨37,.call,ty4,(.list (.prod (.int .i64) (.prod (.int .i64) .unit))),false,true,f37nv⟩
theorem c37nv:Contract Tryz.prog sp37nv:=by
 unfold sp37nv
 rw [f37nv_eq]
 exact c37n
end Go.V
namespace Go.V
open Go.Proofs
theorem f34n_yes {t:TREE} (h:TreeOK t):f34n (t,()) = .ret 0:=by
 unfold f34n F34n;simp only [h.t55,Bool.not_true]
theorem f34n_no {t:TREE} (h:¬ TreeOK t):f34n (t,()) = .ret 2:=by
 unfold f34n F34n;simp only [no55 h,Bool.not_false]
theorem errRow0 (t:TREE) (s:List (List Int)):∀ n,errRow t s n 0=[]
 | 0=>rfl
 | n+1=>by
  have e:errRow t s (n+1) 0=errRow t s n 0++errCell t s 0 n:=flatMap_succ _ _;rw [e,errRow0 t s n];rfl
theorem f37n_at {t:TREE} {s:List (List Int)} (ht:TreeOK t) (hs:StoryOK t s):f37n (t,(s,())) = .ret (errList t s):=by
 have hfb:=fuel_big;have hc:=ht.copies;have hsl:=hs.len;obtain ⟨P,hP,hP1,hP3⟩:=ht.pl;have hPt:t.1.toNat=P:=by omega
 unfold f37n F37n;have key:=runL1 (L:=fun n i=>L37n_0 fuel n (t,(s,())) ((List.range i).flatMap (errRow t s P)) i) (lo:=1) (len:=s.length) (K:=.ret (errList t s)) (fun n i h0 hi=>?_) (fun n=>?_) (s.length - 1) fuel 1 (Nat.le_refl _) (by omega) (by omega)
 . refine Eq.trans ?_ key;show L37n_0 fuel fuel (t,(s,())) [] 1=L37n_0 fuel fuel (t,(s,())) _ ((1:Nat):Int);have e:(List.range 1).flatMap (errRow t s P)=[]:=by
    show errRow t s P 0++[]=[]
    rw [errRow0];rfl
   rw [e];rfl
 . try dsimp only
   rw [L37n_0_succ]
   try delta lenI
   simp only [dT (show (i:Int)<s.length by omega)];have hrow:=(hs.row i hi).len;have hout:((List.range i).flatMap (errRow t s P)).length<=i * (P * 1):=flat_len fun j _=>errRow_len t s P j
   have hb:i * (P * 1)<=8 * (3 * 1):=Nat.mul_le_mul (by omega) (Nat.mul_le_mul hP3 (Nat.le_refl 1));have inner:=runL (L:=fun n1 p=>L37n_1 fuel n n1 (t,(s,())) i ((List.range i).flatMap (errRow t s P)++errRow t s p i) p) (len:=P) (K:=L37n_0 fuel n (t,(s,())) ((List.range (i+1)).flatMap (errRow t s P)) ((i+1:Nat):Int)) (fun n1 p hp=>?_) (fun n1=>?_) P fuel 0 (by omega) (by omega)
   . refine Eq.trans ?_ inner;show L37n_1 fuel n fuel (t,(s,())) i _ 0=L37n_1 fuel n fuel (t,(s,())) i _ ((0:Nat):Int);rw [show errRow t s 0 i=[] from rfl,List.append_nil];rfl
   . try dsimp only
     rw [L37n_1_succ]
     try delta lenI
     have hel:=errRow_len t s p i;have e1:errRow t s (p+1) i=errRow t s p i++errCell t s i p:=flatMap_succ _ _;have hp0:0<=(t.2.1.getD i NODE0).1/\(t.2.1.getD i NODE0).1<i:=ht.par i (by omega) (by omega);have ep:((t.2.1.getD i NODE0).1).toNat=parN t i:=rfl
     have hrow2:=(hs.row (parN t i) (by rw [<- ep];omega)).len;simp only [Int.toNat_natCast,dT (show (p:Int)<t.1 by omega),inbT (show (0:Int)<=i by omega) (show (i:Int)<s.length by omega),inbT (show (0:Int)<=p by omega) (show (p:Int)<(s.getD i []).length by omega),inbT (show (0:Int)<=i by omega) (show (i:Int)<t.2.1.length by omega),inbT hp0.1 (show (t.2.1.getD i NODE0).1<s.length by omega),ep,inbT (show (0:Int)<=p by omega) (show (p:Int)<(s.getD (parN t i) []).length by omega),cond_true,wn (show p<1000000000 by omega)]
     rw [e1]
     by_cases q1:(s.getD i []).getD p 0=(s.getD (parN t i) []).getD p 0
     . simp only [nF q1];rw [show errCell t s i p=[] by unfold errCell isErr;rw [dF (show ¬ cellAt s i p≠cellAt s (parN t i) p from fun h=>h q1),Bool.and_false];rfl,List.append_nil]
     . have ec:errCell t s i p=[((i:Int),((p:Int),()))]:=by unfold errCell isErr;rw [dT (show 0<i by omega),dT (show cellAt s i p≠cellAt s (parN t i) p from q1)];rfl
       simp only [nT q1,fitsT (xs:=(List.range i).flatMap (errRow t s P)++errRow t s p i) (ys:=[((i:Int),((p:Int),()))]) (by rw [List.length_append];simp only [List.length_cons,List.length_nil];omega),cond_true];rw [ec,<- List.append_assoc]
   . try dsimp only
     rw [L37n_1_succ]
     try delta lenI
     simp only [dF (show ¬ ((P:Nat):Int)<t.1 by omega),wn (show i<1000000000 by omega)];rw [flatMap_succ]
 . try dsimp only
   rw [L37n_0_succ]
   try delta lenI
   simp only [dF (show ¬ ((s.length:Nat):Int)<s.length by omega)];unfold errList;rw [hPt,hsl]
end Go.V
namespace Go.V
open Go.Proofs
def specs8:List Spec:=[sp13v,sp14v,sp31v,sp34nv,sp33v,sp17v,sp32v,sp37nv,sp53v]
def hints8:List (Nat×List Nat):=[]
def F8 (N:Nat) (x:lt3):Out Bool:=match f13v (x.1,()) with | .ret r_1=>(match (!r_1) with|true=>(match f14v () with | .ret r=>.ret r | .pan p=>.pan p | .fail=>.fail)|false=>match f31v (x.2.1,()) with | .ret r_5=>(match (!r_5) with|true=>(match f14v () with | .ret r=>.ret r | .pan p=>.pan p | .fail=>.fail)|false=>match f34nv (x.1,()) with | .ret r_9=>(match f33v (x.1,(x.2.1,())) with | .ret r_11=>(match f17v (x.1,()) with | .ret r_13=>(match (!r_13) with|true=>(match (r_9==2) with|true=>(match (r_11.2.1==2) with|true=>(match ((lenI r_11.1)==0) with|true=>(match f14v () with | .ret r=>.ret r | .pan p=>.pan p | .fail=>.fail)|false=>.ret false)|false=>.ret false)|false=>.ret false)|false=>match (r_9 != 0) with|true=>.ret false|false=>match f32v (x.1,(x.2.1,())) with | .ret r_17=>(match (!r_17) with|true=>(match (r_11.2.1==2) with|true=>(match ((lenI r_11.1)==0) with|true=>(match f14v () with | .ret r=>.ret r | .pan p=>.pan p | .fail=>.fail)|false=>.ret false)|false=>.ret false)|false=>match (r_11.2.1==0) with|true=>(match f37nv (x.1,(x.2.1,())) with | .ret r_21=>(match f53v (r_11.1,(r_21,())) with | .ret r_23=>(match r_23 with|true=>(match f14v () with | .ret r=>.ret r | .pan p=>.pan p | .fail=>.fail)|false=>.ret false) | .pan p=>.pan p | .fail=>.fail) | .pan p=>.pan p | .fail=>.fail)|false=>.ret false) | .pan p=>.pan p | .fail=>.fail) | .pan p=>.pan p | .fail=>.fail) | .pan p=>.pan p | .fail=>.fail) | .pan p=>.pan p | .fail=>.fail) | .pan p=>.pan p | .fail=>.fail) | .pan p=>.pan p | .fail=>.fail
theorem e8 (N:Nat) (x:lt3):vfn Tryz.prog (phi specs8) hints8 N Tryz.f8 false false ty4 .bool x=F8 N x:=by kernel_rfl
def f8 (x:lt3):Out Bool:=F8 fuel x
def sp8:Spec:=⟨8,.call,ty4,.bool,false,false,f8⟩
theorem c8:Contract Tryz.prog sp8:=contract_at (l:=specs8) (arg:=ty4) (res:=.bool) (multi:=false) (own:=false) (F:=f8) mixed (all_cons c13v (all_cons c14v (all_cons c31v (all_cons c34nv (all_cons c33v (all_cons c17v (all_cons c32v (all_cons c37nv (all_cons c53v all_nil))))))))) Tryz.func8 rfl hints8 fun x _=>⟨fuel,e8 fuel x⟩
end Go.V
namespace Go.V
open Go.Proofs
theorem law8 (t:TREE) (s:List (List Int)):f8 (t,(s,())) = .ret true:=by
 show F8 fuel (t,(s,()))=_;unfold F8;obtain ⟨c,h13⟩:=f13_at t;obtain ⟨d,h31⟩:=f31_at s;simp only [f13v_eq,f31v_eq,f34nv_eq,f33v_eq,f17v_eq,f32v_eq,f37nv_eq,f53v_eq,h13,h31];cases c with
 | false=>simp only [nf,known_true]
 | true =>
 cases d with
 | false=>simp only [nt,nf,known_true]
 | true =>
  simp only [nt];have ble:(lenI ([]:List (Int×(Int×Unit)))==(0:Int))=true:=rfl
  by_cases ht:TreeOK t
  rotate_left
  . simp only [f34n_no ht,f33_no (t:=t) (s:=s) fun h=>ht h.1,no17 ht,nf,b22,ble,known_true]
  simp only [f34n_yes ht,ht.t17,nt,n00];rcases story_ret ht s with ⟨hs,h32,_⟩|⟨hs,h32,_⟩
  rotate_left
  . simp only [f33_no (t:=t) (s:=s) fun h=>hs h.2,h32,nf,b22,ble,known_true]
  have hl:(errList t s).length<1000000:=by
   have h1:(errList t s).length<=t.2.1.length * (t.1.toNat * 1):=flat_len fun i _=>errRow_len t s _ i
   have h2:=ht.copies;have h3:=ht.places;have h4:t.2.1.length * (t.1.toNat * 1)<=8 * (3 * 1):=Nat.mul_le_mul (by omega) (Nat.mul_le_mul (by omega) (Nat.le_refl 1));omega
  simp only [f33_at ht hs,h32,nt,b00,f37n_at ht hs,f53_at (errList t s) (errList t s) hl,decide_true,known_true]
end Go.V
end
