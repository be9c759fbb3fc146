/- What law 6 of the copies needs beyond what all laws need: functions read, and the plain law. -/
import Derived.Test.YtmkbnifehdhbbaaGreatDoorQL
import Derived.Test.YtmkbnifehdhbbaaGreatDoorCR2
import Derived.Test.YtmkbnifehdhbbaaGreatDoorCRA
set_option linter.all false
noncomputable section
namespace Go.V
open Go.Proofs
def specs13:List Spec:=[]
def hints13:List (Nat×List Nat):=[(2,[1,3])]
def L13_0 (N:Nat) (n_L13_0:Nat) (x:lt1) (i_1:Int):Out Bool :=
 vloop Tryz.prog (phi specs13) hints13 N Tryz.f13 false false .bool [.at 1,.at 0,.at 1,.at 0] n_L13_0 [U,.box [.d (.int .i64) x.1.1,.d ty0 x.1.2.1],U,.d (.int .i64) i_1,U,U,U,U,U,U,U,U,U,U,U,U,U,U,U,U,U,U,U,U,U,U,U]
theorem L13_0_succ (N:Nat) (n_L13_0:Nat) (x:lt1) (i_1:Int):L13_0 N  (n_L13_0+1) x i_1 =
 (match (decide (i_1<(lenI x.1.2.1))) with|true=>(match (decide (i_1<10)) with|true=>bif (inb i_1 x.1.2.1.length) then match (decide ((lenI ((List.getD x.1.2.1 i_1.toNat (0,([],())))).2.1) > 5)) with|true=>.ret false|false=>L13_0 N n_L13_0 x (IntKind.i64.wrap (i_1+1)) else .fail|false=>.ret (decide ((lenI x.1.2.1)<=10)))|false=>.ret (decide ((lenI x.1.2.1)<=10)):Out Bool):=by kernel_rfl
def F13 (N:Nat) (x:lt1):Out Bool:=L13_0 N N x 0
theorem e13 (N:Nat) (x:lt1):vfn Tryz.prog (phi specs13) hints13 N Tryz.f13 false false ty2 .bool x=F13 N x:=by kernel_rfl
def f13 (x:lt1):Out Bool:=F13 fuel x
def sp13:Spec:=⟨13,.call,ty2,.bool,false,false,f13⟩
theorem c13:Contract Tryz.prog sp13:=contract_at (l:=specs13) (arg:=ty2) (res:=.bool) (multi:=false) (own:=false) (F:=f13) mixed all_nil Tryz.func13 rfl hints13 fun x _=>⟨fuel,e13 fuel x⟩
def specs31:List Spec:=[]
def hints31:List (Nat×List Nat):=[(2,[0,3])]
def L31_0 (N:Nat) (n_L31_0:Nat) (x:((List (List Int))×Unit)) (i_1:Int):Out Bool :=
 vloop Tryz.prog (phi specs31) hints31 N Tryz.f31 false false .bool [.at 1,.at 0,.at 1,.at 0] n_L31_0 [.d ty1 x.1,U,U,.d (.int .i64) i_1,U,U,U,U,U,U,U,U,U,U,U,U,U,U,U,U,U,U,U]
theorem L31_0_succ (N:Nat) (n_L31_0:Nat) (x:((List (List Int))×Unit)) (i_1:Int):L31_0 N  (n_L31_0+1) x i_1 =
 (match (decide (i_1<(lenI x.1))) with|true=>(match (decide (i_1<12)) with|true=>bif (inb i_1 x.1.length) then match (decide ((lenI (List.getD x.1 i_1.toNat [])) > 5)) with|true=>.ret false|false=>L31_0 N n_L31_0 x (IntKind.i64.wrap (i_1+1)) else .fail|false=>.ret (decide ((lenI x.1)<=10)))|false=>.ret (decide ((lenI x.1)<=10)):Out Bool):=by kernel_rfl
def F31 (N:Nat) (x:((List (List Int))×Unit)):Out Bool:=L31_0 N N x 0
theorem e31 (N:Nat) (x:((List (List Int))×Unit)):vfn Tryz.prog (phi specs31) hints31 N Tryz.f31 false false (.prod (.list (.list (.int .i64))) .unit) .bool x=F31 N x:=by kernel_rfl
def f31 (x:((List (List Int))×Unit)):Out Bool:=F31 fuel x
def sp31:Spec:=⟨31,.call,(.prod (.list (.list (.int .i64))) .unit),.bool,false,false,f31⟩
theorem c31:Contract Tryz.prog sp31:=contract_at (l:=specs31) (arg:=(.prod (.list (.list (.int .i64))) .unit)) (res:=.bool) (multi:=false) (own:=false) (F:=f31) mixed all_nil Tryz.func31 rfl hints31 fun x _=>⟨fuel,e31 fuel x⟩
def specs61:List Spec:=[]
def hints61:List (Nat×List Nat):=[]
theorem e61 (N:Nat) (x:(Int×(Int×(Int×Unit)))):vfn Tryz.prog (phi specs61) hints61 N Tryz.f61 false false ty10 .bool x=F61 N x:=by kernel_rfl
theorem c61:Contract Tryz.prog sp61:=contract_at (l:=specs61) (arg:=ty10) (res:=.bool) (multi:=false) (own:=false) (F:=f61) mixed all_nil Tryz.func61 rfl hints61 fun x _=>⟨fuel,e61 fuel x⟩
def specs69:List Spec:=[]
def hints69:List (Nat×List Nat):=[(2,[0,1,5])]
def L69_0 (N:Nat) (n_L69_0:Nat) (x:lt5) (i_1:Int):Out Bool :=
 vloop Tryz.prog (phi specs69) hints69 N Tryz.f69 false false .bool [.at 1,.at 0,.at 1,.at 0] n_L69_0 [.d (.list (.int .i64)) x.1,.d (.list (.int .i64)) x.2.1,U,U,U,.d (.int .i64) i_1,U,U,U,U,U,U,U,U,U,U,U,U,U,U,U,U,U,U,U,U,U,U,U,U,U,U,U,U,U,U,U,U,U,U,U]
theorem L69_0_succ (N:Nat) (n_L69_0:Nat) (x:lt5) (i_1:Int):L69_0 N  (n_L69_0+1) x i_1 =
 (match (decide (i_1<(lenI x.1))) with|true=>(match (decide (i_1<(lenI x.2.1))) with|true=>bif (inb i_1 x.1.length) then bif (inb i_1 x.2.1.length) then match ((List.getD x.1 i_1.toNat 0) != (List.getD x.2.1 i_1.toNat 0)) with|true=>bif (inb i_1 x.1.length) then bif (inb i_1 x.2.1.length) then .ret (decide ((List.getD x.1 i_1.toNat 0)<(List.getD x.2.1 i_1.toNat 0))) else .fail else .fail|false=>L69_0 N n_L69_0 x (IntKind.i64.wrap (i_1+1)) else .fail else .fail|false=>.ret (decide ((lenI x.1)<(lenI x.2.1))))|false=>.ret (decide ((lenI x.1)<(lenI x.2.1))):Out Bool):=by kernel_rfl
def F69 (N:Nat) (x:lt5):Out Bool:=L69_0 N N x 0
theorem e69 (N:Nat) (x:lt5):vfn Tryz.prog (phi specs69) hints69 N Tryz.f69 false false ty7 .bool x=F69 N x:=by kernel_rfl
def f69 (x:lt5):Out Bool:=F69 fuel x
def sp69:Spec:=⟨69,.call,ty7,.bool,false,false,f69⟩
theorem c69:Contract Tryz.prog sp69:=contract_at (l:=specs69) (arg:=ty7) (res:=.bool) (multi:=false) (own:=false) (F:=f69) mixed all_nil Tryz.func69 rfl hints69 fun x _=>⟨fuel,e69 fuel x⟩
def specs34:List Spec:=[sp19,sp69]
def hints34:List (Nat×List Nat):=[(2,[0,1,5])]
def L34_0 (N:Nat) (n_L34_0:Nat) (x:lt18) (i_1:Int):Out Int :=
 vloop Tryz.prog (phi specs34) hints34 N Tryz.f34 false false (.int .i64) [.at 1,.at 0,.at 1,.at 0] n_L34_0 [.d ty1 x.1,.d ty1 x.2.1,U,U,U,.d (.int .i64) i_1,U,U,U,U,U,U,U,U,U,U,U,U,U,U,U,U,U,U,U,U,U,U,U,U,U,U,U,U,U,U,U]
theorem L34_0_succ (N:Nat) (n_L34_0:Nat) (x:lt18) (i_1:Int):L34_0 N  (n_L34_0+1) x i_1 =
 (match (decide (i_1<(lenI x.1))) with|true=>(match (decide (i_1<(lenI x.2.1))) with|true=>bif (inb i_1 x.1.length) then bif (inb i_1 x.2.1.length) then match f19 ((List.getD x.1 i_1.toNat []),((List.getD x.2.1 i_1.toNat []),())) with | .ret r_2=>(match (!r_2) with|true=>bif (inb i_1 x.1.length) then bif (inb i_1 x.2.1.length) then match f69 ((List.getD x.1 i_1.toNat []),((List.getD x.2.1 i_1.toNat []),())) with | .ret r_4=>(match r_4 with|true=>.ret 1|false=>.ret (-1)) | .pan p=>.pan p | .fail=>.fail else .fail else .fail|false=>L34_0 N n_L34_0 x (IntKind.i64.wrap (i_1+1))) | .pan p=>.pan p | .fail=>.fail else .fail else .fail|false=>.ret 0)|false=>.ret 0:Out Int):=by kernel_rfl
def F34 (N:Nat) (x:lt18):Out Int:=L34_0 N N x 0
theorem e34 (N:Nat) (x:lt18):vfn Tryz.prog (phi specs34) hints34 N Tryz.f34 false false ty21 (.int .i64) x=F34 N x:=by kernel_rfl
def f34 (x:lt18):Out Int:=F34 fuel x
def sp34:Spec:=⟨34,.call,ty21,(.int .i64),false,false,f34⟩
theorem c34:Contract Tryz.prog sp34:=contract_at (l:=specs34) (arg:=ty21) (res:=(.int .i64)) (multi:=false) (own:=false) (F:=f34) mixed (all_cons c19 (all_cons c69 all_nil)) Tryz.func34 rfl hints34 fun x _=>⟨fuel,e34 fuel x⟩
def specs46:List Spec:=[sp61]
def hints46:List (Nat×List Nat):=[]
theorem e46 (N:Nat) (x:(Int×Unit)):vfn Tryz.prog (phi specs46) hints46 N Tryz.f46 false false (.prod (.int .i64) .unit) .bool x=F46 N x:=by kernel_rfl
theorem c46:Contract Tryz.prog sp46:=contract_at (l:=specs46) (arg:=(.prod (.int .i64) .unit)) (res:=.bool) (multi:=false) (own:=false) (F:=f46) mixed (all_cons c61 all_nil) Tryz.func46 rfl hints46 fun x _=>⟨fuel,e46 fuel x⟩
theorem e17 (N:Nat) (x:lt1):vfn Tryz.prog (phi specs17) hints17 N Tryz.f17 false false ty2 .bool x=F17 N x:=by kernel_rfl
def sp17:Spec:=⟨17,.call,ty2,.bool,false,false,f17⟩
theorem c17:Contract Tryz.prog sp17:=contract_at (l:=specs17) (arg:=ty2) (res:=.bool) (multi:=false) (own:=false) (F:=f17) mixed (all_cons c61 (all_cons c46 all_nil)) Tryz.func17 rfl hints17 fun x _=>⟨fuel,e17 fuel x⟩
def specs22:List Spec:=[sp13,sp17]
def hints22:List (Nat×List Nat):=[]
def F22 (N:Nat) (x:lt1):Out Bool:=match f13 (x.1,()) with | .ret r_1=>(match r_1 with|true=>(match f17 (x.1,()) with | .ret r=>.ret r | .pan p=>.pan p | .fail=>.fail)|false=>.ret false) | .pan p=>.pan p | .fail=>.fail
theorem e22 (N:Nat) (x:lt1):vfn Tryz.prog (phi specs22) hints22 N Tryz.f22 false false ty2 .bool x=F22 N x:=by kernel_rfl
def f22 (x:lt1):Out Bool:=F22 fuel x
def sp22:Spec:=⟨22,.call,ty2,.bool,false,false,f22⟩
theorem c22:Contract Tryz.prog sp22:=contract_at (l:=specs22) (arg:=ty2) (res:=.bool) (multi:=false) (own:=false) (F:=f22) mixed (all_cons c13 (all_cons c17 all_nil)) Tryz.func22 rfl hints22 fun x _=>⟨fuel,e22 fuel x⟩
theorem e32 (N:Nat) (x:lt3):vfn Tryz.prog (phi specs32) hints32 N Tryz.f32 false false ty4 .bool x=F32 N x:=by kernel_rfl
def sp32:Spec:=⟨32,.call,ty4,.bool,false,false,f32⟩
theorem c32:Contract Tryz.prog sp32:=contract_at (l:=specs32) (arg:=ty4) (res:=.bool) (multi:=false) (own:=false) (F:=f32) mixed (all_cons c46 all_nil) Tryz.func32 rfl hints32 fun x _=>⟨fuel,e32 fuel x⟩
end Go.V
namespace Go.V
theorem errs_at {t:TREE} {place:Int} (h:Ground (madeT t) place) {l:List Int} (hl:Best t place l):errsT t place=costV t l:=by
 obtain ⟨l',h1,h2⟩:=errs_eq h
 have:=h1.few l hl.vc
 have:=hl.few l' h1.vc
 omega
end Go.V
namespace Go.V
open Go.Proofs
theorem f13_at (t:TREE):∃ b,f13 (t,()) = .ret b:=by
 have hfb:=fuel_big
 unfold f13 F13
 have done:∀ n i:Nat,¬ (i:Int)<t.2.1.length\/¬ i<10->∃ b,L13_0 fuel (n+1) (t,()) i = .ret b:=fun n i h=>by
  rw [L13_0_succ]
  try delta lenI
  by_cases h1:(i:Int)<t.2.1.length
  . have h2:¬ (i:Int)<10:=by rcases h with h|h<;>omega
    simp only [dT h1,dF h2]
    exact ⟨_,rfl⟩
  . simp only [dF h1]
    exact ⟨_,rfl⟩
 have loop:∀ (d n i:Nat),d<n->i+d=10->∃ b,L13_0 fuel n (t,()) i = .ret b:=by
  intro d
  induction d with
  | zero =>
   intro n i hn hi
   obtain ⟨n,rfl⟩:=succ_of hn
   exact done n i (.inr (by omega))
  | succ d ih =>
   intro n i hn hi
   obtain ⟨n,rfl⟩:=succ_of hn
   by_cases h1:(i:Int)<t.2.1.length
   . rw [L13_0_succ]
     try delta lenI
     simp only [dT h1,dT (show (i:Int)<10 by omega),inbT (show (0:Int)<=i by omega) h1,cond_true,wn (show i<1000000000 by omega)]
     split
     . exact ⟨_,rfl⟩
     . exact ih n (i+1) (by omega) (by omega)
   . exact done n i (.inl h1)
 exact loop 10 fuel 0 (by omega) (by omega)
end Go.V
namespace Go.V
open Go.Proofs
theorem f22_at (t:TREE):f22 (t,()) = .ret false\/(f22 (t,()) = .ret true/\TreeOK t):=by
 obtain ⟨b,h⟩:=f13_at t
 unfold f22 F22
 cases b with
 | false=>simp only [h];exact .inl trivial
 | true =>
  simp only [h]
  rcases tree_ret (t:=t) with ⟨h1,h2,_⟩|⟨h1,h2,_⟩
  . simp only [h2];exact .inr ⟨trivial,h1⟩
  . simp only [h2];exact .inl trivial
theorem f31_at (s:List (List Int)):∃ b,f31 (s,()) = .ret b:=by
 have hfb:=fuel_big
 unfold f31 F31
 have done:∀ n i:Nat,¬ (i:Int)<s.length\/¬ i<12->∃ b,L31_0 fuel (n+1) (s,()) i = .ret b:=fun n i h=>by
  rw [L31_0_succ]
  try delta lenI
  by_cases h1:(i:Int)<s.length
  . have h2:¬ (i:Int)<12:=by rcases h with h|h<;>omega
    simp only [dT h1,dF h2]
    exact ⟨_,rfl⟩
  . simp only [dF h1]
    exact ⟨_,rfl⟩
 have loop:∀ (d n i:Nat),d<n->i+d=12->∃ b,L31_0 fuel n (s,()) i = .ret b:=by
  intro d
  induction d with
  | zero =>
   intro n i hn hi
   obtain ⟨n,rfl⟩:=succ_of hn
   exact done n i (.inr (by omega))
  | succ d ih =>
   intro n i hn hi
   obtain ⟨n,rfl⟩:=succ_of hn
   by_cases h1:(i:Int)<s.length
   . rw [L31_0_succ]
     try delta lenI
     simp only [dT h1,dT (show (i:Int)<12 by omega),inbT (show (0:Int)<=i by omega) h1,cond_true,wn (show i<1000000000 by omega)]
     split
     . exact ⟨_,rfl⟩
     . exact ih n (i+1) (by omega) (by omega)
   . exact done n i (.inl h1)
 exact loop 12 fuel 0 (by omega) (by omega)
theorem f31_short (s:List (List Int)) (h1:s.length<=10) (h2:∀ i,i<s.length->(s.getD i []).length<=5):f31 (s,()) = .ret true:=by
 have hfb:=fuel_big
 unfold f31 F31
 have key:=runL (L:=fun n i=>L31_0 fuel n (s,()) i) (len:=s.length) (K:=.ret true) (fun n i hi=>?_) (fun n=>?_) s.length fuel 0 (by omega) (by omega)
 . exact key
 . try dsimp only
   rw [L31_0_succ]
   try delta lenI
   have:=h2 i hi
   simp only [dT (show (i:Int)<s.length by omega),dT (show (i:Int)<12 by omega),inbT (show (0:Int)<=i by omega) (show (i:Int)<s.length by omega),cond_true,wn (show i<1000000000 by omega),Int.toNat_natCast,dF (show ¬ ((s.getD i []).length:Int) > 5 by omega)]
 . try dsimp only
   rw [L31_0_succ]
   try delta lenI
   simp only [dF (show ¬ ((s.length:Nat):Int)<s.length by omega),dT (show (s.length:Int)<=10 by omega)]
end Go.V
namespace Go.V
open Go.Proofs
theorem cnt_but (t:TREE) (p:Nat):∀ k:Nat,cntTo t (-1) k=if p<k then cntTo t p k * (storT t p).length else cntTo t p k
 | 0=>by rw [if_neg (by omega)];rfl
 | k+1=>by
  have ih:=cnt_but t p k
  have e1:cntTo t (-1) (k+1)=cntTo t (-1) k * (storT t k).length:=by rw [cntTo,if_neg (by omega)]
  rw [e1,ih]
  by_cases e:k=p
  . subst e
    rw [if_neg (by omega),if_pos (by omega),cntTo,if_pos rfl]
  . have e2:cntTo t p (k+1)=cntTo t p k * (storT t k).length:=by rw [cntTo,if_neg (by omega)]
    rw [e2]
    by_cases h:p<k
    . rw [if_pos h,if_pos (by omega),Int.mul_assoc,Int.mul_assoc,Int.mul_comm ((storT t p).length:Int)]
    . rw [if_neg h,if_neg (by omega)]
theorem cntT_but {t:TREE} {p:Nat} (hp:(p:Int)<t.1):cntT t (-1)=cntT t p * (storT t p).length:=by
 unfold cntT
 rw [cnt_but t p,if_pos (by omega)]
end Go.V
namespace Go.V
open Go.Proofs
@[irreducible] def f22v:lt1->Out Bool:=veil f22
theorem f22v_eq:f22v=f22:=by unfold f22v;exact veil_eq f22
def sp22v:Spec:=⟨22,.call,ty2,.bool,false,false,f22v⟩
theorem c22v:Contract Tryz.prog sp22v:=by
 unfold sp22v
 rw [f22v_eq]
 exact c22
@[irreducible] def f31v:((List (List Int))×Unit)->Out Bool:=veil f31
theorem f31v_eq:f31v=f31:=by unfold f31v;exact veil_eq f31
def sp31v:Spec:=⟨31,.call,(.prod (.list (.list (.int .i64))) .unit),.bool,false,false,f31v⟩
theorem c31v:Contract Tryz.prog sp31v:=by
 unfold sp31v
 rw [f31v_eq]
 exact c31
@[irreducible] def f32v:lt3->Out Bool:=veil f32
theorem f32v_eq:f32v=f32:=by unfold f32v;exact veil_eq f32
def sp32v:Spec:=⟨32,.call,ty4,.bool,false,false,f32v⟩
theorem c32v:Contract Tryz.prog sp32v:=by
 unfold sp32v
 rw [f32v_eq]
 exact c32
@[irreducible] def f34v:lt18->Out Int:=veil f34
theorem f34v_eq:f34v=f34:=by unfold f34v;exact veil_eq f34
def sp34v:Spec:=⟨34,.call,ty21,(.int .i64),false,false,f34v⟩
theorem c34v:Contract Tryz.prog sp34v:=by
 unfold sp34v
 rw [f34v_eq]
 exact c34
end Go.V
namespace Go.V
open Go.Proofs
theorem b00:((0:Int)==0)=true:=rfl
theorem n00:((0:Int) != 0)=false:=rfl
theorem nt:(!true)=false:=rfl
theorem nf:(!false)=true:=rfl
end Go.V
namespace Go.V
open Go.Proofs
def colS (t:TREE) (s:List (List Int)) (p:Nat):List Int:=(List.range t.2.1.length).map fun i=>cellAt s i p
theorem colS_len (t:TREE) (s:List (List Int)) (p:Nat):(colS t s p).length=t.2.1.length:=by unfold colS;simp
theorem colS_at {t:TREE} {s:List (List Int)} {p i:Nat} (h:i<t.2.1.length):(colS t s p).getD i 0=cellAt s i p:=rangeMap_getD h
theorem StoryOK.cell {t:TREE} {s:List (List Int)} (h:StoryOK t s) {i p:Nat} (hi:i<t.2.1.length) (hp:(p:Int)<t.1):FigOK t s i p:=by
 have hr:=h.row i (by rw [h.len];exact hi)
 exact hr.cell p (by have:=hr.len;omega)
theorem colS_vc {t:TREE} {s:List (List Int)} (h:StoryOK t s) {p:Nat} (hp:(p:Int)<t.1):VC t p (colS t s p) where
 len:=colS_len t s p
 fig:=fun x hx=>by
  unfold colS at hx
  obtain ⟨i,hi,rfl⟩:=List.mem_map.1 hx
  exact (h.cell (List.mem_range.1 hi) hp).1
 fit:=fun i hi=>by rw [colS_at hi];exact (h.cell hi hp).2
theorem TreeOK.at {t:TREE} (h:TreeOK t) {p:Nat} (hp:(p:Int)<t.1):TreeP t (p:Int):=h.treeP (by omega) hp
theorem TreeOK.par_lt {t:TREE} (h:TreeOK t) {i:Nat} (h0:0<i) (hi:i<t.2.1.length):parN t i<i:=by
 have:=h.par i h0 hi
 unfold parN;omega
theorem flat_sum {β:Type} (f:Nat->List β):∀ n:Nat,(((List.range n).flatMap f).length:Int)=sumTo n fun i=>((f i).length:Int)
 | 0=>rfl
 | n+1=>by
  rw [flatMap_succ,List.length_append]
  show _=sumTo n (fun i=>((f i).length:Int))+((f n).length:Int)
  rw [<- flat_sum f n]
  omega
theorem sumTo_swap (m:Nat) (f:Nat->Nat->Int):∀ n:Nat,(sumTo n fun i=>sumTo m fun p=>f i p)=sumTo m fun p=>sumTo n fun i=>f i p
 | 0=>(sumTo_all0 fun p _=>rfl).symm
 | n+1=>by
  show (sumTo n fun i=>sumTo m fun p=>f i p)+(sumTo m fun p=>f n p)=sumTo m fun p=>(sumTo n fun i=>f i p)+f n p
  rw [sumTo_swap m f n,sumTo_add]
theorem errs_cols {t:TREE} {s:List (List Int)} (ht:TreeOK t):((errList t s).length:Int)=sumTo t.1.toNat fun p=>costV t (colS t s p):=by
 unfold errList
 rw [flat_sum]
 have e1:(sumTo t.2.1.length fun i=>((errRow t s t.1.toNat i).length:Int))=sumTo t.2.1.length fun i=>sumTo t.1.toNat fun p=>(if isErr t s i p then (1:Int) else 0):=by
  refine sumTo_congr fun i hi=>?_
  unfold errRow
  rw [flat_sum]
  refine sumTo_congr fun p hp=>?_
  unfold errCell
  split<;>rfl
 rw [e1,sumTo_swap]
 refine sumTo_congr fun p hp=>?_
 unfold costV
 refine sumTo_congr fun i hi=>?_
 unfold isErr
 by_cases h0:i=0
 . subst h0;simp
 . have hq:=ht.par_lt (by omega) hi
   rw [if_neg h0,colS_at hi,colS_at (by omega)]
   by_cases h1:cellAt s i p=cellAt s (parN t i) p
   . rw [if_pos h1];simp [h1]
   . rw [if_neg h1];simp [h1];omega
theorem errs_low {t:TREE} {place:Int} (h:TreeP t place) {l:List Int} (hv:VC t place l):errsT t place<=costV t l:=by
 have hb:=stor_best0 h
 rw [errs_at h.ground hb]
 exact hb.few l hv
theorem best_of {t:TREE} {place:Int} (h:TreeP t place) {l:List Int} (hv:VC t place l) (he:costV t l<=errsT t place):Best t place l :=
 ⟨hv,fun l' hv'=>Int.le_trans he (errs_low h hv')⟩
theorem few_le {t:TREE} {s:List (List Int)} (ht:TreeOK t) (hs:StoryOK t s):fewT t<=(errList t s).length:=by
 rw [errs_cols ht]
 exact sumTo_mono fun p hp=>errs_low (ht.at (by omega)) (colS_vc hs (by omega))
theorem best_cols {t:TREE} {s:List (List Int)} (ht:TreeOK t) (hs:StoryOK t s) (he:((errList t s).length:Int)=fewT t) {p:Nat} (hp:(p:Int)<t.1):Best t p (colS t s p):=by
 refine best_of (ht.at hp) (colS_vc hs hp) (Int.not_lt.1 fun hlt=>?_)
 rw [errs_cols ht] at he
 have:=sumTo_lt (n:=t.1.toNat) (f:=fun p=>errsT t p) (g:=fun p=>costV t (colS t s p)) (fun q hq=>errs_low (ht.at (by omega)) (colS_vc hs (by omega))) (k:=p) (by omega) hlt
 have e:fewT t=sumTo t.1.toNat fun p=>errsT t p:=rfl
 omega
theorem first_cell {t:TREE} {i p:Nat} (hi:i<t.2.1.length) (hp:p<t.1.toNat):cellAt (firstT t) i p=((storT t p).getD 0 []).getD i 0:=by
 unfold cellAt firstT
 rw [rangeMap_getD hi]
 unfold firstTo
 rw [rangeMap_getD hp]
 rfl
theorem first_col {t:TREE} (ht:TreeOK t) {p:Nat} (hp:(p:Int)<t.1):colS t (firstT t) p=(storT t p).getD 0 []:=by
 have hb:=(stor_best0 (ht.at hp)).vc.len
 refine ext_getD 0 (by rw [colS_len,hb]) fun i hi=>?_
 rw [colS_len] at hi
 rw [colS_at hi,first_cell hi (by omega)]
theorem first_len (t:TREE):(firstT t).length=t.2.1.length:=by unfold firstT;simp
theorem first_row {t:TREE} {i:Nat} (hi:i<t.2.1.length):((firstT t).getD i []).length=t.1.toNat:=by
 unfold firstT
 rw [rangeMap_getD hi]
 unfold firstTo
 simp
theorem first_ok {t:TREE} (ht:TreeOK t):StoryOK t (firstT t) where
 len:=first_len t
 row:=fun i hi=>by
  rw [first_len] at hi
  have hP:=ht.places
  refine ⟨by rw [first_row hi];omega,fun p hp=>?_⟩
  rw [first_row hi] at hp
  have hb:=(stor_best0 (ht.at (p:=p) (by omega))).vc
  unfold FigOK
  rw [first_cell hi hp]
  exact ⟨hb.at hi,hb.fit i hi⟩
theorem first_errs {t:TREE} (ht:TreeOK t):((errList t (firstT t)).length:Int)=fewT t:=by
 rw [errs_cols ht]
 show _=sumTo t.1.toNat fun p=>errsT t p
 refine sumTo_congr fun p hp=>?_
 rw [first_col ht (by omega)]
 exact (errs_at (ht.at (p:=p) (by omega)).ground (stor_best0 (ht.at (by omega)))).symm
def LexB (a b:List Int):Prop:=∃ j,j<a.length/\(∀ i,i<j->a.getD i 0=b.getD i 0)/\a.getD j 0<b.getD j 0
theorem figs_up:figs.Pairwise (· < ·):=by decide
theorem getD_app {now t:List Int} {g:Int} {i:Nat} (h:i<now.length):(now++[g]++t).getD i 0=now.getD i 0:=by
 rw [List.getD_eq_getElem?_getD,List.getD_eq_getElem?_getD,List.append_assoc,List.getElem?_append_left h]
theorem getD_app1 {now t:List Int} {g:Int}:(now++[g]++t).getD now.length 0=g:=by
 rw [List.getD_eq_getElem?_getD,List.append_assoc,List.getElem?_append_right (Nat.le_refl _)]
 simp
theorem exts_lex:∀ (k:Nat) (now:List Int),(exts figs k now).Pairwise LexB
 | 0,now=>by unfold exts;simp
 | k+1,now=>by
  unfold exts
  rw [List.pairwise_flatMap]
  refine ⟨fun g _=>exts_lex k (now++[g]),figs_up.imp fun {g h} hgh x hx y hy=>?_⟩
  obtain ⟨u,rfl,_,_⟩:=mem_exts.1 hx
  obtain ⟨v,rfl,_,_⟩:=mem_exts.1 hy
  refine ⟨now.length,by simp,fun i hi=>?_,?_⟩
  . rw [getD_app hi,getD_app hi]
  . rw [getD_app1,getD_app1];exact hgh
theorem stor_lex {t:TREE} {place:Int} (h:TreeP t place):(storT t place).Pairwise LexB:=by
 rw [stor_eq h.ground]
 exact (exts_lex _ _).filter _
theorem first_lex {t:TREE} {place:Int} (h:TreeP t place) {l:List Int} (hb:Best t place l):l=(storT t place).getD 0 []\/LexB ((storT t place).getD 0 []) l:=by
 have hm:=(stor_best h).2 hb
 have hp:=stor_lex h
 cases e:storT t place with
 | nil=>rw [e] at hm;cases hm
 | cons x xs =>
  rw [e] at hm hp
  rw [List.pairwise_cons] at hp
  rcases List.mem_cons.1 hm with rfl|hm
  . exact .inl rfl
  . exact .inr (hp.1 l hm)
theorem f69_at (a b:List Int) (h:a.length<1000000) (hl:a.length=b.length):(∃ j,j<a.length/\a.getD j 0≠b.getD j 0/\(∀ k,k<j->a.getD k 0=b.getD k 0)/\f69 (a,(b,())) = .ret (decide (a.getD j 0<b.getD j 0)))\/(a=b/\f69 (a,(b,())) = .ret false):=by
 have hfb:=fuel_big
 unfold f69 F69
 have key:=findL (L:=fun n i=>L69_0 fuel n (a,(b,())) i) (len:=a.length) (K:=.ret false) (fun i=>¬ a.getD i 0=b.getD i 0) (fun j=>.ret (decide (a.getD j 0<b.getD j 0))) (fun n i hi=>?_) (fun n=>?_) a.length fuel 0 (by omega) (by omega)
 . rcases key with ⟨j,h1,h2,h3,h4,h5⟩|⟨h1,h2⟩
   . exact .inl ⟨j,h2,h3,fun k hk=>Classical.byContradiction (h4 k (Nat.zero_le _) hk),h5⟩
   . exact .inr ⟨ext_getD 0 hl (not_all h1),h2⟩
 . try dsimp only
   rw [L69_0_succ]
   try delta lenI
   simp only [dT (show (i:Int)<a.length by omega),dT (show (i:Int)<b.length by omega),inbT (show (0:Int)<=i by omega) (show (i:Int)<a.length by omega),inbT (show (0:Int)<=i by omega) (show (i:Int)<b.length by omega),cond_true,Int.toNat_natCast,wn (show i<1000000000 by omega)]
   by_cases g:a.getD i 0=b.getD i 0
   . simp only [nF g];exact .inr ⟨fun h=>h g,trivial⟩
   . simp only [nT g];exact .inl ⟨g,trivial⟩
 . try dsimp only
   rw [L69_0_succ]
   try delta lenI
   simp only [dF (show ¬ ((a.length:Nat):Int)<a.length by omega),dF (show ¬ (a.length:Int)<b.length by omega)]
theorem f34_at (a b:List (List Int)) (h:a.length<1000000) (hl:a.length=b.length) (hr:∀ i,i<a.length->(a.getD i []).length<1000000/\(a.getD i []).length=(b.getD i []).length) :
 (a=b/\f34 (a,(b,())) = .ret 0)\/(∃ i j,i<a.length/\(∀ k,k<i->a.getD k []=b.getD k [])/\j<(a.getD i []).length/\cellAt a i j≠cellAt b i j/\f34 (a,(b,())) = .ret (if cellAt a i j<cellAt b i j then 1 else -1)):=by
 have hfb:=fuel_big
 unfold f34 F34
 have key:=findL (L:=fun n i=>L34_0 fuel n (a,(b,())) i) (len:=a.length) (K:=.ret 0) (fun i=>¬ a.getD i []=b.getD i []) (fun i=>match f69 (a.getD i [],(b.getD i [],())) with
  | .ret true=>.ret 1
  | .ret false=>.ret (-1)
  | .pan p=>.pan p
  | .fail=>.fail) (fun n i hi=>?_) (fun n=>?_) a.length fuel 0 (by omega) (by omega)
 . rcases key with ⟨i,h1,h2,h3,h4,h5⟩|⟨h1,h2⟩
   . obtain ⟨r1,r2⟩:=hr i h2
     refine .inr ?_
     rcases f69_at _ _ r1 r2 with ⟨j,g1,g2,g3,g4⟩|⟨g1,_⟩
     . refine ⟨i,j,h2,fun k hk=>Classical.byContradiction (h4 k (Nat.zero_le _) hk),g1,g2,h5.trans ?_⟩
       rw [g4]
       unfold cellAt
       by_cases q:(a.getD i []).getD j 0<(b.getD i []).getD j 0
       . rw [dT q,if_pos q]
       . rw [dF q,if_neg q]
     . exact absurd g1 h3
   . exact .inl ⟨ext_getD [] hl (not_all h1),h2⟩
 . try dsimp only
   rw [L34_0_succ]
   try delta lenI
   obtain ⟨r1,r2⟩:=hr i hi
   simp only [dT (show (i:Int)<a.length by omega),dT (show (i:Int)<b.length by omega),inbT (show (0:Int)<=i by omega) (show (i:Int)<a.length by omega),inbT (show (0:Int)<=i by omega) (show (i:Int)<b.length by omega),cond_true,Int.toNat_natCast,wn (show i<1000000000 by omega),f19_at (a.getD i []) (b.getD i []) r1]
   by_cases g:a.getD i []=b.getD i []
   . simp only [dT g,Bool.not_true];exact .inr ⟨fun h=>h g,trivial⟩
   . simp only [dF g,Bool.not_false]
     refine .inl ⟨g,?_⟩
     rcases f69_at _ _ r1 r2 with ⟨j,g1,g2,g3,g4⟩|⟨g1,_⟩
     . rw [g4]
       cases decide ((a.getD i []).getD j 0<(b.getD i []).getD j 0)<;>rfl
     . exact absurd g1 g
 . try dsimp only
   rw [L34_0_succ]
   try delta lenI
   simp only [dF (show ¬ ((a.length:Nat):Int)<a.length by omega)]
end Go.V
namespace Go.V
open Go.Proofs
def specs6:List Spec:=[sp22v,sp14v,sp31v,sp32v,sp24v,sp25v,sp26v,sp33v,sp34v]
def hints6:List (Nat×List Nat):=[]
def F6 (N:Nat) (x:lt3):Out Bool:=match f22v (x.1,()) with | .ret r_1=>(match (!r_1) with|true=>(match f14v () with | .ret r=>.ret r | .pan p=>.pan p | .fail=>.fail)|false=>match f31v (x.2.1,()) with | .ret r_5=>(match (!r_5) with|true=>(match f14v () with | .ret r=>.ret r | .pan p=>.pan p | .fail=>.fail)|false=>match f32v (x.1,(x.2.1,())) with | .ret r_9=>(match (!r_9) with|true=>(match f14v () with | .ret r=>.ret r | .pan p=>.pan p | .fail=>.fail)|false=>match f24v (x.1,()) with | .ret r_13=>(match f25v (x.1,()) with | .ret r_15=>(match f26v (x.1,()) with | .ret r_17=>(match f33v (x.1,(x.2.1,())) with | .ret r_19=>(match (r_13.2.1 != 0) with|true=>.ret false|false=>match (r_15.2.1 != 0) with|true=>.ret false|false=>match (r_17.2.1 != 0) with|true=>.ret false|false=>match (r_19.2.1 != 0) with|true=>.ret false|false=>match f31v (r_15.1,()) with | .ret r_21=>(match (!r_21) with|true=>.ret false|false=>match f32v (x.1,(r_15.1,())) with | .ret r_23=>(match (!r_23) with|true=>.ret false|false=>match (decide (r_17.1<1)) with|true=>.ret false|false=>match (decide ((lenI r_19.1)<r_13.1)) with|true=>.ret false|false=>match f33v (x.1,(r_15.1,())) with | .ret r_25=>(match (r_25.2.1 != 0) with|true=>.ret false|false=>match ((lenI r_25.1) != r_13.1) with|true=>.ret false|false=>match f34v (x.2.1,(r_15.1,())) with | .ret r_27=>(match (decide ((lenI r_19.1) > r_13.1)) with|true=>(match f14v () with | .ret r=>.ret r | .pan p=>.pan p | .fail=>.fail)|false=>match (decide (r_27<=0)) with|true=>(match (r_27==0) with|true=>(match f14v () with | .ret r=>.ret r | .pan p=>.pan p | .fail=>.fail)|false=>match (decide (r_17.1 > 1)) with|true=>(match f14v () with | .ret r=>.ret r | .pan p=>.pan p | .fail=>.fail)|false=>.ret false)|false=>.ret false) | .pan p=>.pan p | .fail=>.fail) | .pan p=>.pan p | .fail=>.fail) | .pan p=>.pan p | .fail=>.fail) | .pan p=>.pan p | .fail=>.fail) | .pan p=>.pan p | .fail=>.fail) | .pan p=>.pan p | .fail=>.fail) | .pan p=>.pan p | .fail=>.fail) | .pan p=>.pan p | .fail=>.fail) | .pan p=>.pan p | .fail=>.fail) | .pan p=>.pan p | .fail=>.fail) | .pan p=>.pan p | .fail=>.fail
theorem e6 (N:Nat) (x:lt3):vfn Tryz.prog (phi specs6) hints6 N Tryz.f6 false false ty4 .bool x=F6 N x:=by kernel_rfl
def f6 (x:lt3):Out Bool:=F6 fuel x
def sp6:Spec:=⟨6,.call,ty4,.bool,false,false,f6⟩
theorem c6:Contract Tryz.prog sp6:=contract_at (l:=specs6) (arg:=ty4) (res:=.bool) (multi:=false) (own:=false) (F:=f6) mixed (all_cons c22v (all_cons c14v (all_cons c31v (all_cons c32v (all_cons c24v (all_cons c25v (all_cons c26v (all_cons c33v (all_cons c34v all_nil))))))))) Tryz.func6 rfl hints6 fun x _=>⟨fuel,e6 fuel x⟩
end Go.V
namespace Go.V
open Go.Proofs
theorem first_small {t:TREE} (ht:TreeOK t):f31 (firstT t,()) = .ret true:=by
 have h1:=ht.copies
 have h2:=ht.places
 refine f31_short _ (by rw [first_len];omega) fun i hi=>?_
 rw [first_len] at hi
 rw [first_row hi]
 omega
theorem rival {t:TREE} (ht:TreeOK t) {s:List (List Int)} (hs:StoryOK t s) (he:((errList t s).length:Int)=fewT t) {i j:Nat} (hi:i<t.2.1.length) (hj:(j:Int)<t.1) (hk:∀ k,k<i->s.getD k []=(firstT t).getD k []) (hne:cellAt s i j≠cellAt (firstT t) i j) :
 ¬ cellAt s i j<cellAt (firstT t) i j/\1<cntT t (-1):=by
 have hp:=ht.at hj
 have hb:=best_cols ht hs he hj
 have hcell:∀ k,k<i->cellAt s k j=cellAt (firstT t) k j:=fun k h=>by unfold cellAt;rw [hk k h]
 have e1:(colS t s j).getD i 0=cellAt s i j:=colS_at hi
 have e2:((storT t j).getD 0 []).getD i 0=cellAt (firstT t) i j:=(first_cell hi (by omega)).symm
 rcases first_lex hp hb with h|⟨m,m1,m2,m3⟩
 . exact absurd (by rw [<- e1,<- e2,h]) hne
 . have hlen:=(stor_best0 hp).vc.len
   have em:m=i:=by
    rcases Nat.lt_trichotomy m i with h|h|h
    . have g1:((storT t j).getD 0 []).getD m 0=cellAt (firstT t) m j:=(first_cell (by omega) (by omega)).symm
      have g2:(colS t s j).getD m 0=cellAt s m j:=colS_at (by omega)
      have:=hcell m h
      omega
    . exact h
    . have:=m2 i h
      omega
   subst em
   refine ⟨by omega,?_⟩
   have h2:2<=(storT t j).length:=by
    have q1:=(stor_best hp).2 hb
    have q2:=(stor_best hp).2 (stor_best0 hp)
    cases e:storT t j with
    | nil=>rw [e] at q1;cases q1
    | cons x xs =>
     cases xs with
     | cons y ys=>simp
     | nil =>
      rw [e] at q1 q2 e2 m3
      simp at q1
      rw [q1] at m3
      have:([x]:List (List Int)).getD 0 []=x:=rfl
      rw [this] at m3
      omega
   have c1:=cntT_but (t:=t) hj
   have c2:=cntT_bd ht (j:Int)
   rw [c1]
   have:cntT t j * 2<=cntT t j * ((storT t j).length:Int):=Int.mul_le_mul_of_nonneg_left (by omega) (by omega)
   omega
theorem law6 (t:TREE) (s:List (List Int)):f6 (t,(s,())) = .ret true:=by
 show F6 fuel (t,(s,()))=_
 unfold F6
 simp only [f22v_eq,f31v_eq,f32v_eq,f24v_eq,f25v_eq,f26v_eq,f33v_eq,f34v_eq]
 rcases f22_at t with h22|⟨h22,ht⟩
 . simp only [h22,nf,known_true]
 obtain ⟨c,h31⟩:=f31_at s
 simp only [h22,nt,h31]
 cases c with
 | false=>simp only [nf,known_true]
 | true =>
  simp only [nt]
  rcases story_ret ht s with ⟨hs,h32,_⟩|⟨hs,h32,_⟩
  rotate_left
  . simp only [h32,nf,known_true]
  have fo:=first_ok ht
  rcases story_ret ht (firstT t) with ⟨_,g32,_⟩|⟨g32,_⟩
  rotate_left
  . exact absurd fo g32
  have hc:=(cntT_bd ht (-1)).1
  have hf:=few_le ht hs
  have l1:decide (cntT t (-1)<1)=false:=dF (by omega)
  have l2:decide (lenI (errList t s)<fewT t)=false:=dF (by delta lenI;omega)
  have l3:(lenI (errList t (firstT t)) != fewT t)=false:=nF (first_errs ht)
  have hsl:=hs.len
  have hc8:=ht.copies
  have hP:=ht.places
  simp only [h32,nt,f24_at ht,f25_at ht,f26_at ht,f33_at ht hs,f33_at ht fo,n00,first_small ht,g32,l1,l2,l3]
  have key:=f34_at s (firstT t) (by omega) (by rw [hsl,first_len]) fun i hi=>by
   have h1:=(hs.row i hi).len
   rw [first_row (by omega)]
   omega
  by_cases he:((errList t s).length:Int)=fewT t
  rotate_left
  . have l4:decide (lenI (errList t s) > fewT t)=true:=dT (by delta lenI;omega)
    rcases key with ⟨_,k⟩|⟨i,j,_,_,_,_,k⟩<;>simp only [k,l4,known_true]
  have l4:decide (lenI (errList t s) > fewT t)=false:=dF (by delta lenI;omega)
  rcases key with ⟨_,k⟩|⟨i,j,k1,k2,k3,k4,k⟩
  . simp only [k,l4,b00,known_true,dT (Int.le_refl 0)]
  . have h1:=(hs.row i k1).len
    obtain ⟨r1,r2⟩:=rival ht hs he (i:=i) (j:=j) (by omega) (by omega) k2 k4
    rw [if_neg r1] at k
    simp only [k,l4,dT (show (-1:Int)<=0 by decide),show ((-1:Int)==0)=false from rfl,dT (show cntT t (-1) > 1 from r2),known_true]
end Go.V
end
