/- What law 8 of the copies needs beyond what all laws need: functions read, and the plain law. -/
import Derived.Test.YtmkbnifehdhbbaaGreatDoorQL
import Derived.Test.YtmkbnifehdhbbaaGreatDoorCR2
import Derived.Test.YtmkbnifehdhbbaaGreatDoorCRA
set_option linter.all false
noncomputable section
namespace Go.V
open Go.Proofs
def specs13:List Spec:=[]
def hints13:List (Nat×List Nat):=[(2,[1,3])]
def L13_0 (N:Nat) (n_L13_0:Nat) (x:lt1) (i_1:Int):Out Bool :=
 vloop Tryz.prog (phi specs13) hints13 N Tryz.f13 false false .bool [.at 1,.at 0,.at 1,.at 0] n_L13_0 [U,.box [.d (.int .i64) x.1.1,.d ty0 x.1.2.1],U,.d (.int .i64) i_1,U,U,U,U,U,U,U,U,U,U,U,U,U,U,U,U,U,U,U,U,U,U,U]
theorem L13_0_succ (N:Nat) (n_L13_0:Nat) (x:lt1) (i_1:Int):L13_0 N  (n_L13_0+1) x i_1 =
 (match (decide (i_1<(lenI x.1.2.1))) with|true=>(match (decide (i_1<10)) with|true=>bif (inb i_1 x.1.2.1.length) then match (decide ((lenI ((List.getD x.1.2.1 i_1.toNat (0,([],())))).2.1) > 5)) with|true=>.ret false|false=>L13_0 N n_L13_0 x (IntKind.i64.wrap (i_1+1)) else .fail|false=>.ret (decide ((lenI x.1.2.1)<=10)))|false=>.ret (decide ((lenI x.1.2.1)<=10)):Out Bool):=by kernel_rfl
def F13 (N:Nat) (x:lt1):Out Bool:=L13_0 N N x 0
theorem e13 (N:Nat) (x:lt1):vfn Tryz.prog (phi specs13) hints13 N Tryz.f13 false false ty2 .bool x=F13 N x:=by kernel_rfl
def f13 (x:lt1):Out Bool:=F13 fuel x
def sp13:Spec:=⟨13,.call,ty2,.bool,false,false,f13⟩
theorem c13:Contract Tryz.prog sp13:=contract_at (l:=specs13) (arg:=ty2) (res:=.bool) (multi:=false) (own:=false) (F:=f13) mixed all_nil Tryz.func13 rfl hints13 fun x _=>⟨fuel,e13 fuel x⟩
def specs23:List Spec:=[]
def hints23:List (Nat×List Nat):=[(2,[0,1,5])]
def L23_0 (N:Nat) (n_L23_0:Nat) (x:lt2) (i_1:Int):Out Bool :=
 vloop Tryz.prog (phi specs23) hints23 N Tryz.f23 false false .bool [.at 1,.at 0,.at 1,.at 0] n_L23_0 [.d (.list (.int .i64)) x.1,.d (.int .i64) x.2.1,U,U,U,.d (.int .i64) i_1,U,U,U,U,U,U,U,U,U,U,U,U]
theorem L23_0_succ (N:Nat) (n_L23_0:Nat) (x:lt2) (i_1:Int):L23_0 N  (n_L23_0+1) x i_1 =
 (match (decide (i_1<(lenI x.1))) with|true=>bif (inb i_1 x.1.length) then match ((List.getD x.1 i_1.toNat 0)==x.2.1) with|true=>.ret true|false=>L23_0 N n_L23_0 x (IntKind.i64.wrap (i_1+1)) else .fail|false=>.ret false:Out Bool):=by kernel_rfl
def F23 (N:Nat) (x:lt2):Out Bool:=L23_0 N N x 0
theorem e23 (N:Nat) (x:lt2):vfn Tryz.prog (phi specs23) hints23 N Tryz.f23 false false ty3 .bool x=F23 N x:=by kernel_rfl
def f23 (x:lt2):Out Bool:=F23 fuel x
def sp23:Spec:=⟨23,.call,ty3,.bool,false,false,f23⟩
theorem c23:Contract Tryz.prog sp23:=contract_at (l:=specs23) (arg:=ty3) (res:=.bool) (multi:=false) (own:=false) (F:=f23) mixed all_nil Tryz.func23 rfl hints23 fun x _=>⟨fuel,e23 fuel x⟩
def specs31:List Spec:=[]
def hints31:List (Nat×List Nat):=[(2,[0,3])]
def L31_0 (N:Nat) (n_L31_0:Nat) (x:((List (List Int))×Unit)) (i_1:Int):Out Bool :=
 vloop Tryz.prog (phi specs31) hints31 N Tryz.f31 false false .bool [.at 1,.at 0,.at 1,.at 0] n_L31_0 [.d ty1 x.1,U,U,.d (.int .i64) i_1,U,U,U,U,U,U,U,U,U,U,U,U,U,U,U,U,U,U,U]
theorem L31_0_succ (N:Nat) (n_L31_0:Nat) (x:((List (List Int))×Unit)) (i_1:Int):L31_0 N  (n_L31_0+1) x i_1 =
 (match (decide (i_1<(lenI x.1))) with|true=>(match (decide (i_1<12)) with|true=>bif (inb i_1 x.1.length) then match (decide ((lenI (List.getD x.1 i_1.toNat [])) > 5)) with|true=>.ret false|false=>L31_0 N n_L31_0 x (IntKind.i64.wrap (i_1+1)) else .fail|false=>.ret (decide ((lenI x.1)<=10)))|false=>.ret (decide ((lenI x.1)<=10)):Out Bool):=by kernel_rfl
def F31 (N:Nat) (x:((List (List Int))×Unit)):Out Bool:=L31_0 N N x 0
theorem e31 (N:Nat) (x:((List (List Int))×Unit)):vfn Tryz.prog (phi specs31) hints31 N Tryz.f31 false false (.prod (.list (.list (.int .i64))) .unit) .bool x=F31 N x:=by kernel_rfl
def f31 (x:((List (List Int))×Unit)):Out Bool:=F31 fuel x
def sp31:Spec:=⟨31,.call,(.prod (.list (.list (.int .i64))) .unit),.bool,false,false,f31⟩
theorem c31:Contract Tryz.prog sp31:=contract_at (l:=specs31) (arg:=(.prod (.list (.list (.int .i64))) .unit)) (res:=.bool) (multi:=false) (own:=false) (F:=f31) mixed all_nil Tryz.func31 rfl hints31 fun x _=>⟨fuel,e31 fuel x⟩
def specs61:List Spec:=[]
def hints61:List (Nat×List Nat):=[]
theorem e61 (N:Nat) (x:(Int×(Int×(Int×Unit)))):vfn Tryz.prog (phi specs61) hints61 N Tryz.f61 false false ty10 .bool x=F61 N x:=by kernel_rfl
theorem c61:Contract Tryz.prog sp61:=contract_at (l:=specs61) (arg:=ty10) (res:=.bool) (multi:=false) (own:=false) (F:=f61) mixed all_nil Tryz.func61 rfl hints61 fun x _=>⟨fuel,e61 fuel x⟩
def specs18:List Spec:=[sp61]
def hints18:List (Nat×List Nat):=[]
def F18 (N:Nat) (x:lt4):Out Bool:=match f61 (x.2.1,(0,((IntKind.i64.wrap ((lenI x.1.2.1) - 1)),()))) with | .ret r=>.ret r | .pan p=>.pan p | .fail=>.fail
theorem e18 (N:Nat) (x:lt4):vfn Tryz.prog (phi specs18) hints18 N Tryz.f18 false false ty6 .bool x=F18 N x:=by kernel_rfl
def f18 (x:lt4):Out Bool:=F18 fuel x
def sp18:Spec:=⟨18,.call,ty6,.bool,false,false,f18⟩
theorem c18:Contract Tryz.prog sp18:=contract_at (l:=specs18) (arg:=ty6) (res:=.bool) (multi:=false) (own:=false) (F:=f18) mixed (all_cons c61 all_nil) Tryz.func18 rfl hints18 fun x _=>⟨fuel,e18 fuel x⟩
def specs39:List Spec:=[sp61]
def hints39:List (Nat×List Nat):=[]
def F39 (N:Nat) (x:lt4):Out Bool:=match f61 (x.2.1,(0,((IntKind.i64.wrap (x.1.1 - 1)),()))) with | .ret r=>.ret r | .pan p=>.pan p | .fail=>.fail
theorem e39 (N:Nat) (x:lt4):vfn Tryz.prog (phi specs39) hints39 N Tryz.f39 false false ty6 .bool x=F39 N x:=by kernel_rfl
def f39 (x:lt4):Out Bool:=F39 fuel x
def sp39:Spec:=⟨39,.call,ty6,.bool,false,false,f39⟩
theorem c39:Contract Tryz.prog sp39:=contract_at (l:=specs39) (arg:=ty6) (res:=.bool) (multi:=false) (own:=false) (F:=f39) mixed (all_cons c61 all_nil) Tryz.func39 rfl hints39 fun x _=>⟨fuel,e39 fuel x⟩
def specs46:List Spec:=[sp61]
def hints46:List (Nat×List Nat):=[]
theorem e46 (N:Nat) (x:(Int×Unit)):vfn Tryz.prog (phi specs46) hints46 N Tryz.f46 false false (.prod (.int .i64) .unit) .bool x=F46 N x:=by kernel_rfl
theorem c46:Contract Tryz.prog sp46:=contract_at (l:=specs46) (arg:=(.prod (.int .i64) .unit)) (res:=.bool) (multi:=false) (own:=false) (F:=f46) mixed (all_cons c61 all_nil) Tryz.func46 rfl hints46 fun x _=>⟨fuel,e46 fuel x⟩
theorem e17 (N:Nat) (x:lt1):vfn Tryz.prog (phi specs17) hints17 N Tryz.f17 false false ty2 .bool x=F17 N x:=by kernel_rfl
def sp17:Spec:=⟨17,.call,ty2,.bool,false,false,f17⟩
theorem c17:Contract Tryz.prog sp17:=contract_at (l:=specs17) (arg:=ty2) (res:=.bool) (multi:=false) (own:=false) (F:=f17) mixed (all_cons c61 (all_cons c46 all_nil)) Tryz.func17 rfl hints17 fun x _=>⟨fuel,e17 fuel x⟩
def specs22:List Spec:=[sp13,sp17]
def hints22:List (Nat×List Nat):=[]
def F22 (N:Nat) (x:lt1):Out Bool:=match f13 (x.1,()) with | .ret r_1=>(match r_1 with|true=>(match f17 (x.1,()) with | .ret r=>.ret r | .pan p=>.pan p | .fail=>.fail)|false=>.ret false) | .pan p=>.pan p | .fail=>.fail
theorem e22 (N:Nat) (x:lt1):vfn Tryz.prog (phi specs22) hints22 N Tryz.f22 false false ty2 .bool x=F22 N x:=by kernel_rfl
def f22 (x:lt1):Out Bool:=F22 fuel x
def sp22:Spec:=⟨22,.call,ty2,.bool,false,false,f22⟩
theorem c22:Contract Tryz.prog sp22:=contract_at (l:=specs22) (arg:=ty2) (res:=.bool) (multi:=false) (own:=false) (F:=f22) mixed (all_cons c13 (all_cons c17 all_nil)) Tryz.func22 rfl hints22 fun x _=>⟨fuel,e22 fuel x⟩
theorem e32 (N:Nat) (x:lt3):vfn Tryz.prog (phi specs32) hints32 N Tryz.f32 false false ty4 .bool x=F32 N x:=by kernel_rfl
def sp32:Spec:=⟨32,.call,ty4,.bool,false,false,f32⟩
theorem c32:Contract Tryz.prog sp32:=contract_at (l:=specs32) (arg:=ty4) (res:=.bool) (multi:=false) (own:=false) (F:=f32) mixed (all_cons c46 all_nil) Tryz.func32 rfl hints32 fun x _=>⟨fuel,e32 fuel x⟩
end Go.V
namespace Go.V
theorem errs_at {t:TREE} {place:Int} (h:Ground (madeT t) place) {l:List Int} (hl:Best t place l):errsT t place=costV t l:=by
 obtain ⟨l',h1,h2⟩:=errs_eq h
 have:=h1.few l hl.vc
 have:=hl.few l' h1.vc
 omega
end Go.V
namespace Go.V
open Go.Proofs
theorem f23_at (l:List Int) (x:Int) (h:l.length<1000000):f23 (l,(x,())) = .ret (decide (x∈l)):=by
 have hfb:=fuel_big
 unfold f23 F23
 have key:=findL (L:=fun n i=>L23_0 fuel n (l,(x,())) i) (len:=l.length) (K:=.ret false) (fun i=>l.getD i 0=x) (fun _=>.ret true) (fun n i hi=>?_) (fun n=>?_) l.length fuel 0 (by omega) (by omega)
 . rcases key with ⟨j,h1,h2,h3,h4,h5⟩|⟨h1,h2⟩
   . rw [show L23_0 fuel fuel (l,(x,())) 0=_ from h5,dT (show x∈l by rw [<- h3];exact getD_mem h2)]
   . rw [show L23_0 fuel fuel (l,(x,())) 0=_ from h2,dF fun hm=>?_]
     obtain ⟨i,hi,he⟩:=mem_getD hm
     exact h1 i (Nat.zero_le _) hi he
 . try dsimp only
   rw [L23_0_succ]
   try delta lenI
   simp only [dT (show (i:Int)<l.length by omega),inbT (show (0:Int)<=i by omega) (show (i:Int)<l.length by omega),cond_true,Int.toNat_natCast,wn (show i<1000000000 by omega)]
   by_cases g:l.getD i 0=x
   . simp only [eT g];exact .inl ⟨g,trivial⟩
   . simp only [eF g];exact .inr ⟨g,trivial⟩
 . try dsimp only
   rw [L23_0_succ]
   try delta lenI
   simp only [dF (show ¬ ((l.length:Nat):Int)<l.length by omega)]
theorem f13_at (t:TREE):∃ b,f13 (t,()) = .ret b:=by
 have hfb:=fuel_big
 unfold f13 F13
 have done:∀ n i:Nat,¬ (i:Int)<t.2.1.length\/¬ i<10->∃ b,L13_0 fuel (n+1) (t,()) i = .ret b:=fun n i h=>by
  rw [L13_0_succ]
  try delta lenI
  by_cases h1:(i:Int)<t.2.1.length
  . have h2:¬ (i:Int)<10:=by rcases h with h|h<;>omega
    simp only [dT h1,dF h2]
    exact ⟨_,rfl⟩
  . simp only [dF h1]
    exact ⟨_,rfl⟩
 have loop:∀ (d n i:Nat),d<n->i+d=10->∃ b,L13_0 fuel n (t,()) i = .ret b:=by
  intro d
  induction d with
  | zero =>
   intro n i hn hi
   obtain ⟨n,rfl⟩:=succ_of hn
   exact done n i (.inr (by omega))
  | succ d ih =>
   intro n i hn hi
   obtain ⟨n,rfl⟩:=succ_of hn
   by_cases h1:(i:Int)<t.2.1.length
   . rw [L13_0_succ]
     try delta lenI
     simp only [dT h1,dT (show (i:Int)<10 by omega),inbT (show (0:Int)<=i by omega) h1,cond_true,wn (show i<1000000000 by omega)]
     split
     . exact ⟨_,rfl⟩
     . exact ih n (i+1) (by omega) (by omega)
   . exact done n i (.inl h1)
 exact loop 10 fuel 0 (by omega) (by omega)
theorem f18_at {t:TREE} (n:Int) (h:t.2.1.length<1000000):f18 (t,(n,())) = .ret (decide (0<=n/\n<t.2.1.length)):=by
 unfold f18 F18
 try delta lenI
 simp only [i61]
 rw [wr (by omega) (by omega)]
 by_cases h1:0<=n/\n<t.2.1.length
 . rw [dT h1,dT (by omega)]
 . rw [dF h1,dF (by omega)]
end Go.V
namespace Go.V
open Go.Proofs
theorem f22_at (t:TREE):f22 (t,()) = .ret false\/(f22 (t,()) = .ret true/\TreeOK t):=by
 obtain ⟨b,h⟩:=f13_at t
 unfold f22 F22
 cases b with
 | false=>simp only [h];exact .inl trivial
 | true =>
  simp only [h]
  rcases tree_ret (t:=t) with ⟨h1,h2,_⟩|⟨h1,h2,_⟩
  . simp only [h2];exact .inr ⟨trivial,h1⟩
  . simp only [h2];exact .inl trivial
theorem f31_at (s:List (List Int)):∃ b,f31 (s,()) = .ret b:=by
 have hfb:=fuel_big
 unfold f31 F31
 have done:∀ n i:Nat,¬ (i:Int)<s.length\/¬ i<12->∃ b,L31_0 fuel (n+1) (s,()) i = .ret b:=fun n i h=>by
  rw [L31_0_succ]
  try delta lenI
  by_cases h1:(i:Int)<s.length
  . have h2:¬ (i:Int)<12:=by rcases h with h|h<;>omega
    simp only [dT h1,dF h2]
    exact ⟨_,rfl⟩
  . simp only [dF h1]
    exact ⟨_,rfl⟩
 have loop:∀ (d n i:Nat),d<n->i+d=12->∃ b,L31_0 fuel n (s,()) i = .ret b:=by
  intro d
  induction d with
  | zero =>
   intro n i hn hi
   obtain ⟨n,rfl⟩:=succ_of hn
   exact done n i (.inr (by omega))
  | succ d ih =>
   intro n i hn hi
   obtain ⟨n,rfl⟩:=succ_of hn
   by_cases h1:(i:Int)<s.length
   . rw [L31_0_succ]
     try delta lenI
     simp only [dT h1,dT (show (i:Int)<12 by omega),inbT (show (0:Int)<=i by omega) h1,cond_true,wn (show i<1000000000 by omega)]
     split
     . exact ⟨_,rfl⟩
     . exact ih n (i+1) (by omega) (by omega)
   . exact done n i (.inl h1)
 exact loop 12 fuel 0 (by omega) (by omega)
end Go.V
namespace Go.V
open Go.Proofs
theorem f39_at {t:TREE} (ht:TreeOK t) (p:Int):f39 (t,(p,())) = .ret (decide (0<=p/\p<t.1)):=by
 have:=ht.places
 unfold f39 F39
 simp only [i61]
 rw [wr (by omega) (by omega)]
 by_cases h1:0<=p/\p<t.1
 . rw [dT h1,dT (by omega)]
 . rw [dF h1,dF (by omega)]
theorem mem_can {t:TREE} {p:Nat} (h:TreeP t p) {i:Nat} (hi:i<t.2.1.length) {x:Int}:x∈canT t i p<->x∈colOf (storT t p) i:=by
 unfold canT
 rw [List.mem_filter,decide_eq_true_eq,mem_figs]
 exact ⟨fun h=>h.2,fun hx=>⟨col_fig h hi hx,hx⟩⟩
theorem blame_zero {t:TREE} (ht:TreeOK t):blameT t 0=1:=by
 have hz:∀ p,wrongT t 0 p=0:=fun p=>by
  unfold wrongT
  rw [List.countP_eq_zero]
  intro l _
  have:parN t 0=0:=by unfold parN;rw [ht.par0];rfl
  unfold errAt
  rw [this]
  simp
 unfold blameT
 have n2:¬ everT t 0:=fun ⟨p,h1,h2⟩=>by rw [hz] at h2;omega
 have n1:¬ alwaysT t 0:=fun ⟨p,h1,h2⟩=>by
  have hT:=ht.treeP (place:=p) (by omega) (by omega)
  have hn:0<(storT t p).length:=List.length_pos_iff.2 (stor_ne hT)
  rw [hz] at h2
  omega
 rw [if_neg n1,if_neg n2]
end Go.V
namespace Go.V
open Go.Proofs
@[irreducible] def f18v:lt4->Out Bool:=veil f18
theorem f18v_eq:f18v=f18:=by unfold f18v;exact veil_eq f18
def sp18v:Spec:=⟨18,.call,ty6,.bool,false,false,f18v⟩
theorem c18v:Contract Tryz.prog sp18v:=by
 unfold sp18v
 rw [f18v_eq]
 exact c18
@[irreducible] def f22v:lt1->Out Bool:=veil f22
theorem f22v_eq:f22v=f22:=by unfold f22v;exact veil_eq f22
def sp22v:Spec:=⟨22,.call,ty2,.bool,false,false,f22v⟩
theorem c22v:Contract Tryz.prog sp22v:=by
 unfold sp22v
 rw [f22v_eq]
 exact c22
@[irreducible] def f23v:lt2->Out Bool:=veil f23
theorem f23v_eq:f23v=f23:=by unfold f23v;exact veil_eq f23
def sp23v:Spec:=⟨23,.call,ty3,.bool,false,false,f23v⟩
theorem c23v:Contract Tryz.prog sp23v:=by
 unfold sp23v
 rw [f23v_eq]
 exact c23
@[irreducible] def f31v:((List (List Int))×Unit)->Out Bool:=veil f31
theorem f31v_eq:f31v=f31:=by unfold f31v;exact veil_eq f31
def sp31v:Spec:=⟨31,.call,(.prod (.list (.list (.int .i64))) .unit),.bool,false,false,f31v⟩
theorem c31v:Contract Tryz.prog sp31v:=by
 unfold sp31v
 rw [f31v_eq]
 exact c31
@[irreducible] def f32v:lt3->Out Bool:=veil f32
theorem f32v_eq:f32v=f32:=by unfold f32v;exact veil_eq f32
def sp32v:Spec:=⟨32,.call,ty4,.bool,false,false,f32v⟩
theorem c32v:Contract Tryz.prog sp32v:=by
 unfold sp32v
 rw [f32v_eq]
 exact c32
@[irreducible] def f39v:lt4->Out Bool:=veil f39
theorem f39v_eq:f39v=f39:=by unfold f39v;exact veil_eq f39
def sp39v:Spec:=⟨39,.call,ty6,.bool,false,false,f39v⟩
theorem c39v:Contract Tryz.prog sp39v:=by
 unfold sp39v
 rw [f39v_eq]
 exact c39
end Go.V
namespace Go.V
open Go.Proofs
theorem n00:((0:Int) != 0)=false:=rfl
theorem nt:(!true)=false:=rfl
theorem nf:(!false)=true:=rfl
theorem copy_cases (t:TREE) (n:Int):(IsCopy t n/\decide (0<=n/\n<(t.2.1.length:Int))=true)\/(¬ IsCopy t n/\decide (0<=n/\n<(t.2.1.length:Int))=false):=by
 by_cases h:0<=n/\n<(t.2.1.length:Int)
 . exact .inl ⟨⟨h.1,h.2⟩,dT h⟩
 . exact .inr ⟨fun h2=>h ⟨h2.l,h2.h⟩,dF h⟩
theorem place_cases (t:TREE) (n:Int):(IsPlace t n/\decide (0<=n/\n<t.1)=true)\/(¬ IsPlace t n/\decide (0<=n/\n<t.1)=false):=by
 by_cases h:0<=n/\n<t.1
 . exact .inl ⟨⟨h.1,h.2⟩,dT h⟩
 . exact .inr ⟨fun h2=>h ⟨h2.l,h2.h⟩,dF h⟩
theorem IsCopy.nat {t:TREE} {n:Int} (h:IsCopy t n):∃ i:Nat,n=i/\i<t.2.1.length:=⟨n.toNat,by have:=h.l;omega,by have:=h.l;have:=h.h;omega⟩
theorem IsPlace.nat {t:TREE} {n:Int} (h:IsPlace t n):∃ i:Nat,n=i/\(i:Int)<t.1:=⟨n.toNat,by have:=h.l;omega,by have:=h.l;have:=h.h;omega⟩
theorem TreeOK.small {t:TREE} (h:TreeOK t):t.2.1.length<1000000:=by have:=h.copies;omega
end Go.V
namespace Go.V
open Go.Proofs
def colS (t:TREE) (s:List (List Int)) (p:Nat):List Int:=(List.range t.2.1.length).map fun i=>cellAt s i p
theorem colS_len (t:TREE) (s:List (List Int)) (p:Nat):(colS t s p).length=t.2.1.length:=by unfold colS;simp
theorem colS_at {t:TREE} {s:List (List Int)} {p i:Nat} (h:i<t.2.1.length):(colS t s p).getD i 0=cellAt s i p:=rangeMap_getD h
theorem StoryOK.cell {t:TREE} {s:List (List Int)} (h:StoryOK t s) {i p:Nat} (hi:i<t.2.1.length) (hp:(p:Int)<t.1):FigOK t s i p:=by
 have hr:=h.row i (by rw [h.len];exact hi)
 exact hr.cell p (by have:=hr.len;omega)
theorem colS_vc {t:TREE} {s:List (List Int)} (h:StoryOK t s) {p:Nat} (hp:(p:Int)<t.1):VC t p (colS t s p) where
 len:=colS_len t s p
 fig:=fun x hx=>by
  unfold colS at hx
  obtain ⟨i,hi,rfl⟩:=List.mem_map.1 hx
  exact (h.cell (List.mem_range.1 hi) hp).1
 fit:=fun i hi=>by rw [colS_at hi];exact (h.cell hi hp).2
theorem TreeOK.at {t:TREE} (h:TreeOK t) {p:Nat} (hp:(p:Int)<t.1):TreeP t (p:Int):=h.treeP (by omega) hp
theorem TreeOK.par_lt {t:TREE} (h:TreeOK t) {i:Nat} (h0:0<i) (hi:i<t.2.1.length):parN t i<i:=by
 have:=h.par i h0 hi
 unfold parN;omega
theorem flat_sum {β:Type} (f:Nat->List β):∀ n:Nat,(((List.range n).flatMap f).length:Int)=sumTo n fun i=>((f i).length:Int)
 | 0=>rfl
 | n+1=>by
  rw [flatMap_succ,List.length_append]
  show _=sumTo n (fun i=>((f i).length:Int))+((f n).length:Int)
  rw [<- flat_sum f n]
  omega
theorem sumTo_swap (m:Nat) (f:Nat->Nat->Int):∀ n:Nat,(sumTo n fun i=>sumTo m fun p=>f i p)=sumTo m fun p=>sumTo n fun i=>f i p
 | 0=>(sumTo_all0 fun p _=>rfl).symm
 | n+1=>by
  show (sumTo n fun i=>sumTo m fun p=>f i p)+(sumTo m fun p=>f n p)=sumTo m fun p=>(sumTo n fun i=>f i p)+f n p
  rw [sumTo_swap m f n,sumTo_add]
theorem errs_cols {t:TREE} {s:List (List Int)} (ht:TreeOK t):((errList t s).length:Int)=sumTo t.1.toNat fun p=>costV t (colS t s p):=by
 unfold errList
 rw [flat_sum]
 have e1:(sumTo t.2.1.length fun i=>((errRow t s t.1.toNat i).length:Int))=sumTo t.2.1.length fun i=>sumTo t.1.toNat fun p=>(if isErr t s i p then (1:Int) else 0):=by
  refine sumTo_congr fun i hi=>?_
  unfold errRow
  rw [flat_sum]
  refine sumTo_congr fun p hp=>?_
  unfold errCell
  split<;>rfl
 rw [e1,sumTo_swap]
 refine sumTo_congr fun p hp=>?_
 unfold costV
 refine sumTo_congr fun i hi=>?_
 unfold isErr
 by_cases h0:i=0
 . subst h0;simp
 . have hq:=ht.par_lt (by omega) hi
   rw [if_neg h0,colS_at hi,colS_at (by omega)]
   by_cases h1:cellAt s i p=cellAt s (parN t i) p
   . rw [if_pos h1];simp [h1]
   . rw [if_neg h1];simp [h1];omega
theorem errs_low {t:TREE} {place:Int} (h:TreeP t place) {l:List Int} (hv:VC t place l):errsT t place<=costV t l:=by
 have hb:=stor_best0 h
 rw [errs_at h.ground hb]
 exact hb.few l hv
theorem best_of {t:TREE} {place:Int} (h:TreeP t place) {l:List Int} (hv:VC t place l) (he:costV t l<=errsT t place):Best t place l :=
 ⟨hv,fun l' hv'=>Int.le_trans he (errs_low h hv')⟩
theorem best_cols {t:TREE} {s:List (List Int)} (ht:TreeOK t) (hs:StoryOK t s) (he:((errList t s).length:Int)=fewT t) {p:Nat} (hp:(p:Int)<t.1):Best t p (colS t s p):=by
 refine best_of (ht.at hp) (colS_vc hs hp) (Int.not_lt.1 fun hlt=>?_)
 rw [errs_cols ht] at he
 have:=sumTo_lt (n:=t.1.toNat) (f:=fun p=>errsT t p) (g:=fun p=>costV t (colS t s p)) (fun q hq=>errs_low (ht.at (by omega)) (colS_vc hs (by omega))) (k:=p) (by omega) hlt
 have e:fewT t=sumTo t.1.toNat fun p=>errsT t p:=rfl
 omega
theorem first_cell {t:TREE} {i p:Nat} (hi:i<t.2.1.length) (hp:p<t.1.toNat):cellAt (firstT t) i p=((storT t p).getD 0 []).getD i 0:=by
 unfold cellAt firstT
 rw [rangeMap_getD hi]
 unfold firstTo
 rw [rangeMap_getD hp]
 rfl
theorem first_col {t:TREE} (ht:TreeOK t) {p:Nat} (hp:(p:Int)<t.1):colS t (firstT t) p=(storT t p).getD 0 []:=by
 have hb:=(stor_best0 (ht.at hp)).vc.len
 refine ext_getD 0 (by rw [colS_len,hb]) fun i hi=>?_
 rw [colS_len] at hi
 rw [colS_at hi,first_cell hi (by omega)]
theorem first_len (t:TREE):(firstT t).length=t.2.1.length:=by unfold firstT;simp
theorem first_row {t:TREE} {i:Nat} (hi:i<t.2.1.length):((firstT t).getD i []).length=t.1.toNat:=by
 unfold firstT
 rw [rangeMap_getD hi]
 unfold firstTo
 simp
theorem first_ok {t:TREE} (ht:TreeOK t):StoryOK t (firstT t) where
 len:=first_len t
 row:=fun i hi=>by
  rw [first_len] at hi
  have hP:=ht.places
  refine ⟨by rw [first_row hi];omega,fun p hp=>?_⟩
  rw [first_row hi] at hp
  have hb:=(stor_best0 (ht.at (p:=p) (by omega))).vc
  unfold FigOK
  rw [first_cell hi hp]
  exact ⟨hb.at hi,hb.fit i hi⟩
theorem first_errs {t:TREE} (ht:TreeOK t):((errList t (firstT t)).length:Int)=fewT t:=by
 rw [errs_cols ht]
 show _=sumTo t.1.toNat fun p=>errsT t p
 refine sumTo_congr fun p hp=>?_
 rw [first_col ht (by omega)]
 exact (errs_at (ht.at (p:=p) (by omega)).ground (stor_best0 (ht.at (by omega)))).symm
theorem figs_up:figs.Pairwise (· < ·):=by decide
end Go.V
namespace Go.V
open Go.Proofs
def specs8:List Spec:=[sp22v,sp14v,sp31v,sp32v,sp18v,sp39v,sp24v,sp35v,sp36v,sp33v,sp19v,sp23v]
def hints8:List (Nat×List Nat):=[(17,[11,15,18]),(21,[11,15,18,19,20])]
def L8_1 (N:Nat) (n_L8_0:Nat) (n_L8_1:Nat) (r_23:lt2) (r_27:lt13) (i_35:Int) (met_36:Bool) (k_37:Int):Out Bool :=
 vloop Tryz.prog (phi specs8) hints8 N Tryz.f8 false false .bool [.at 1,.at 1,.at 1,.at 1,.at 1,.at 1,.at 1,.at 1,.at 1,.at 1,.at 0,.at 1,.at 0,.at n_L8_0,.at 1,.at 0,.at 0,.at 1,.at 0,.at 1,.at 0] n_L8_1 [U,U,U,U,U,U,U,U,U,U,U,.d (.list (.int .i64)) r_23.1,U,U,U,.d (.list (.prod (.int .i64) (.prod (.int .i64) .unit))) r_27.1,U,U,.d (.int .i64) i_35,.d .bool met_36,.d (.int .i64) k_37,U,U,U,U,U,U,U,U,U,U,U,U,U,U,U,U,U,U,U,U,U,U,U,U,U,U,U,U,U,U,U,U,U,U,U,U,U,U,U,U,U,U,U,U,U,U,U,U,U,U,U,U,U,U,U,U,U,U,U,U,U,U,U,U,U,U,U,U,U,U,U,U,U,U,U,U,U,U,U,U,U,U,U,U,U,U,U,U,U,U,U,U,U,U,U,U,U,U,U,U,U,U,U,U,U,U,U,U,U,U,U,U,U,U,U,U,U,U,U,U,U,U,U,U,U,U,U,U,U,U,U,U,U,U,U,U,U,U,U,U,U,U,U,U,U,U,U,U,U,U,U,U,U,U,U,U,U,U,U,U,U,U,U,U,U,U,U,U,U,U,U,U,U,U,U,U,U,U,U,U,U,U,U,U,U,U,U,U]
def L8_0 (N:Nat) (n_L8_0:Nat) (r_23:lt2) (r_27:lt13) (i_35:Int):Out Bool :=
 vloop Tryz.prog (phi specs8) hints8 N Tryz.f8 false false .bool [.at 1,.at 1,.at 1,.at 1,.at 1,.at 1,.at 1,.at 1,.at 1,.at 1,.at 0,.at 1,.at 0] n_L8_0 [U,U,U,U,U,U,U,U,U,U,U,.d (.list (.int .i64)) r_23.1,U,U,U,.d (.list (.prod (.int .i64) (.prod (.int .i64) .unit))) r_27.1,U,U,.d (.int .i64) i_35,U,U,U,U,U,U,U,U,U,U,U,U,U,U,U,U,U,U,U,U,U,U,U,U,U,U,U,U,U,U,U,U,U,U,U,U,U,U,U,U,U,U,U,U,U,U,U,U,U,U,U,U,U,U,U,U,U,U,U,U,U,U,U,U,U,U,U,U,U,U,U,U,U,U,U,U,U,U,U,U,U,U,U,U,U,U,U,U,U,U,U,U,U,U,U,U,U,U,U,U,U,U,U,U,U,U,U,U,U,U,U,U,U,U,U,U,U,U,U,U,U,U,U,U,U,U,U,U,U,U,U,U,U,U,U,U,U,U,U,U,U,U,U,U,U,U,U,U,U,U,U,U,U,U,U,U,U,U,U,U,U,U,U,U,U,U,U,U,U,U,U,U,U,U,U,U,U,U,U,U,U,U,U,U,U,U,U,U,U,U]
theorem L8_1_succ (N:Nat) (n_L8_0:Nat) (n_L8_1:Nat) (r_23:lt2) (r_27:lt13) (i_35:Int) (met_36:Bool) (k_37:Int):L8_1 N n_L8_0 (n_L8_1+1) r_23 r_27 i_35 met_36 k_37 =
 (match (decide (k_37<(lenI r_27.1))) with|true=>(match met_36 with|true=>L8_1 N n_L8_0 n_L8_1 r_23 r_27 i_35 true (IntKind.i64.wrap (k_37+1))|false=>bif (inb k_37 r_27.1.length) then L8_1 N n_L8_0 n_L8_1 r_23 r_27 i_35 (((List.getD r_27.1 k_37.toNat (0,(0,())))).1==i_35) (IntKind.i64.wrap (k_37+1)) else .fail)|false=>bif (inb i_35 r_23.1.length) then match (decide ((List.getD r_23.1 i_35.toNat 0)<1)) with|true=>.ret false|false=>bif (inb i_35 r_23.1.length) then match (decide ((List.getD r_23.1 i_35.toNat 0) > 3)) with|true=>.ret false|false=>match met_36 with|true=>bif (inb i_35 r_23.1.length) then match ((List.getD r_23.1 i_35.toNat 0)==1) with|true=>.ret false|false=>match (!met_36) with|true=>bif (inb i_35 r_23.1.length) then match ((List.getD r_23.1 i_35.toNat 0)==3) with|true=>.ret false|false=>L8_0 N n_L8_0 r_23 r_27 (IntKind.i64.wrap (i_35+1)) else .fail|false=>L8_0 N n_L8_0 r_23 r_27 (IntKind.i64.wrap (i_35+1)) else .fail|false=>match (!met_36) with|true=>bif (inb i_35 r_23.1.length) then match ((List.getD r_23.1 i_35.toNat 0)==3) with|true=>.ret false|false=>L8_0 N n_L8_0 r_23 r_27 (IntKind.i64.wrap (i_35+1)) else .fail|false=>L8_0 N n_L8_0 r_23 r_27 (IntKind.i64.wrap (i_35+1)) else .fail else .fail:Out Bool):=by kernel_rfl
theorem L8_0_succ (N:Nat) (n_L8_0:Nat) (r_23:lt2) (r_27:lt13) (i_35:Int):L8_0 N  (n_L8_0+1) r_23 r_27 i_35 =
 (match (decide (i_35<(lenI r_23.1))) with|true=>L8_1 N n_L8_0 N r_23 r_27 i_35 false 0|false=>match f14v () with | .ret r=>.ret r | .pan p=>.pan p | .fail=>.fail:Out Bool):=by kernel_rfl
def F8 (N:Nat) (x:((Int×((List (Int×((List Int)×Unit)))×Unit))×((List (List Int))×(Int×(Int×Unit))))):Out Bool:=match f22v (x.1,()) with | .ret r_1=>(match (!r_1) with|true=>(match f14v () with | .ret r=>.ret r | .pan p=>.pan p | .fail=>.fail)|false=>match f31v (x.2.1,()) with | .ret r_5=>(match (!r_5) with|true=>(match f14v () with | .ret r=>.ret r | .pan p=>.pan p | .fail=>.fail)|false=>match f32v (x.1,(x.2.1,())) with | .ret r_9=>(match (!r_9) with|true=>(match f14v () with | .ret r=>.ret r | .pan p=>.pan p | .fail=>.fail)|false=>match f18v (x.1,(x.2.2.1,())) with | .ret r_13=>(match (!r_13) with|true=>(match f14v () with | .ret r=>.ret r | .pan p=>.pan p | .fail=>.fail)|false=>match f39v (x.1,(x.2.2.2.1,())) with | .ret r_17=>(match (!r_17) with|true=>(match f14v () with | .ret r=>.ret r | .pan p=>.pan p | .fail=>.fail)|false=>match f24v (x.1,()) with | .ret r_21=>(match f35v (x.1,()) with | .ret r_23=>(match f36v (x.1,(x.2.2.1,(x.2.2.2.1,()))) with | .ret r_25=>(match f33v (x.1,(x.2.1,())) with | .ret r_27=>(match (r_21.2.1 != 0) with|true=>.ret false|false=>match (r_23.2.1 != 0) with|true=>.ret false|false=>match (r_25.2.1 != 0) with|true=>.ret false|false=>match (r_27.2.1 != 0) with|true=>.ret false|false=>match ((lenI r_23.1) != (lenI x.1.2.1)) with|true=>.ret false|false=>bif (inb 0 r_23.1.length) then match ((List.getD r_23.1 (0:Int).toNat 0) != 1) with|true=>.ret false|false=>match ((lenI r_25.1)==0) with|true=>.ret false|false=>match (decide ((lenI r_25.1) > 10)) with|true=>.ret false|false=>match (decide ((lenI r_27.1) > (IntKind.i64.wrap ((lenI x.1.2.1) * x.1.1)))) with|true=>.ret false|false=>bif (inb x.2.2.1 x.1.2.1.length) then bif (inb x.2.2.2.1 ((List.getD x.1.2.1 x.2.2.1.toNat (0,([],())))).2.1.length) then match (decide ((List.getD ((List.getD x.1.2.1 x.2.2.1.toNat (0,([],())))).2.1 x.2.2.2.1.toNat 0) >= 0)) with|true=>(match f19v (r_25.1,(([(List.getD ((List.getD x.1.2.1 x.2.2.1.toNat (0,([],())))).2.1 x.2.2.2.1.toNat 0)]:List Int),())) with | .ret r_29=>(match (!r_29) with|true=>.ret false|false=>match ((lenI r_27.1) != r_21.1) with|true=>(match f14v () with | .ret r=>.ret r | .pan p=>.pan p | .fail=>.fail)|false=>bif (inb x.2.2.1 x.2.1.length) then bif (inb x.2.2.2.1 (List.getD x.2.1 x.2.2.1.toNat []).length) then match f23v (r_25.1,((List.getD (List.getD x.2.1 x.2.2.1.toNat []) x.2.2.2.1.toNat 0),())) with | .ret r_33=>(match (!r_33) with|true=>.ret false|false=>L8_0 N N r_23 r_27 0) | .pan p=>.pan p | .fail=>.fail else .fail else .fail) | .pan p=>.pan p | .fail=>.fail)|false=>match ((lenI r_27.1) != r_21.1) with|true=>(match f14v () with | .ret r=>.ret r | .pan p=>.pan p | .fail=>.fail)|false=>bif (inb x.2.2.1 x.2.1.length) then bif (inb x.2.2.2.1 (List.getD x.2.1 x.2.2.1.toNat []).length) then match f23v (r_25.1,((List.getD (List.getD x.2.1 x.2.2.1.toNat []) x.2.2.2.1.toNat 0),())) with | .ret r_42=>(match (!r_42) with|true=>.ret false|false=>L8_0 N N r_23 r_27 0) | .pan p=>.pan p | .fail=>.fail else .fail else .fail else .fail else .fail else .fail) | .pan p=>.pan p | .fail=>.fail) | .pan p=>.pan p | .fail=>.fail) | .pan p=>.pan p | .fail=>.fail) | .pan p=>.pan p | .fail=>.fail) | .pan p=>.pan p | .fail=>.fail) | .pan p=>.pan p | .fail=>.fail) | .pan p=>.pan p | .fail=>.fail) | .pan p=>.pan p | .fail=>.fail) | .pan p=>.pan p | .fail=>.fail
theorem e8 (N:Nat) (x:((Int×((List (Int×((List Int)×Unit)))×Unit))×((List (List Int))×(Int×(Int×Unit))))):vfn Tryz.prog (phi specs8) hints8 N Tryz.f8 false false (.prod (.prod (.int .i64) (.prod (.list (.prod (.int .i64) (.prod (.list (.int .i64)) .unit))) .unit)) (.prod (.list (.list (.int .i64))) (.prod (.int .i64) (.prod (.int .i64) .unit)))) .bool x=F8 N x:=by kernel_rfl
def f8 (x:((Int×((List (Int×((List Int)×Unit)))×Unit))×((List (List Int))×(Int×(Int×Unit))))):Out Bool:=F8 fuel x
def sp8:Spec:=⟨8,.call,(.prod (.prod (.int .i64) (.prod (.list (.prod (.int .i64) (.prod (.list (.int .i64)) .unit))) .unit)) (.prod (.list (.list (.int .i64))) (.prod (.int .i64) (.prod (.int .i64) .unit)))),.bool,false,false,f8⟩
theorem c8:Contract Tryz.prog sp8:=contract_at (l:=specs8) (arg:=(.prod (.prod (.int .i64) (.prod (.list (.prod (.int .i64) (.prod (.list (.int .i64)) .unit))) .unit)) (.prod (.list (.list (.int .i64))) (.prod (.int .i64) (.prod (.int .i64) .unit))))) (res:=.bool) (multi:=false) (own:=false) (F:=f8) mixed (all_cons c22v (all_cons c14v (all_cons c31v (all_cons c32v (all_cons c18v (all_cons c39v (all_cons c24v (all_cons c35v (all_cons c36v (all_cons c33v (all_cons c19v (all_cons c23v all_nil)))))))))))) Tryz.func8 rfl hints8 fun x _=>⟨fuel,e8 fuel x⟩
end Go.V
namespace Go.V
open Go.Proofs
theorem mem_errs {t:TREE} {s:List (List Int)} {e:ERR}:e∈errList t s<->∃ i p:Nat,i<t.2.1.length/\p<t.1.toNat/\isErr t s i p=true/\e=((i:Int),((p:Int),())):=by
 unfold errList errRow errCell
 simp only [List.mem_flatMap,List.mem_range]
 constructor
 . rintro ⟨i,hi,p,hp,h⟩
   split at h
   . next h1=>exact ⟨i,p,hi,hp,h1,by simpa using h⟩
   . cases h
 . rintro ⟨i,p,hi,hp,h1,rfl⟩
   exact ⟨i,hi,p,hp,by rw [if_pos h1];simp⟩
theorem errs_len {t:TREE} (ht:TreeOK t) (s:List (List Int)):((errList t s).length:Int)<=t.2.1.length * t.1:=by
 have h:(errList t s).length<=t.2.1.length * (t.1.toNat * 1):=flat_len fun i _=>errRow_len t s _ i
 have:=ht.places
 have e:((t.2.1.length * (t.1.toNat * 1):Nat):Int)=t.2.1.length * t.1:=by
  rw [Nat.mul_one,Int.natCast_mul,Int.toNat_of_nonneg (by omega)]
 omega
theorem errs_lenw {t:TREE} (ht:TreeOK t) (s:List (List Int)):decide (lenI (errList t s) > IntKind.i64.wrap (lenI t.2.1 * t.1))=false:=by
 have h:=errs_len ht s
 have h1:=ht.places
 have h2:=ht.copies
 have h3:(t.2.1.length:Int) * t.1<=8 * 3:=Int.mul_le_mul (by omega) (by omega) (by omega) (by omega)
 delta lenI
 rw [wr (by omega) (by omega)]
 exact dF (by omega)
theorem cell_can {t:TREE} (ht:TreeOK t) {s:List (List Int)} (hs:StoryOK t s) (he:((errList t s).length:Int)=fewT t) {i p:Nat} (hi:i<t.2.1.length) (hp:(p:Int)<t.1):cellAt s i p∈canT t i p:=by
 rw [mem_can (ht.at hp) hi]
 unfold colOf
 exact List.mem_map.2 ⟨colS t s p,(stor_best (ht.at hp)).2 (best_cols ht hs he hp),colS_at hi⟩
theorem can_pos {t:TREE} (ht:TreeOK t) {i p:Nat} (hi:i<t.2.1.length) (hp:(p:Int)<t.1):0<(canT t i p).length :=
 List.length_pos_of_mem (cell_can ht (first_ok ht) (first_errs ht) hi hp)
theorem can_len8 (t:TREE) (i p:Nat):(canT t i p).length<=10:=Nat.le_trans (List.length_filter_le _ _) (by decide)
theorem can_seen {t:TREE} (ht:TreeOK t) {i p:Nat} (hi:i<t.2.1.length) (hp:(p:Int)<t.1) (h:seenAt t i p >= 0):canT t i p=[seenAt t i p]:=by
 have hx:∀ x,x∈canT t i p->x=seenAt t i p:=fun x hx=>by
  rw [mem_can (ht.at hp) hi] at hx
  unfold colOf at hx
  obtain ⟨l,hl,rfl⟩:=List.mem_map.1 hx
  have:=((stor_best (ht.at hp)).1 hl).vc.fit i hi
  rw [fitsV_iff] at this
  omega
 refine strict_ext (figs_up.filter _) (List.pairwise_singleton _ _) fun x=>⟨fun h1=>by rw [hx x h1];simp,fun h1=>?_⟩
 obtain rfl:x=seenAt t i p:=by simpa using h1
 have h2:=cell_can ht (first_ok ht) (first_errs ht) hi hp
 rw [<- hx _ h2]
 exact h2
def metErr (l:List ERR) (i:Nat):Bool:=l.any fun e=>e.1==(i:Int)
theorem met_iff {t:TREE} {s:List (List Int)} {i:Nat} (hi:i<t.2.1.length):metErr (errList t s) i=true<->∃ p,p<t.1.toNat/\isErr t s i p=true:=by
 unfold metErr
 rw [List.any_eq_true]
 constructor
 . rintro ⟨e,he,h⟩
   obtain ⟨k,p,_,hp,h1,rfl⟩:=mem_errs.1 he
   have h2:(k:Int)=i:=by simpa using h
   have:k=i:=by omega
   subst this
   exact ⟨p,hp,h1⟩
 . rintro ⟨p,hp,h⟩
   exact ⟨_,mem_errs.2 ⟨i,p,hi,hp,h,rfl⟩,by simp⟩
theorem err_col {t:TREE} (ht:TreeOK t) {s:List (List Int)} {i p:Nat} (hi:i<t.2.1.length):errAt t i (colS t s p)=true<->isErr t s i p=true:=by
 unfold errAt isErr
 by_cases h0:i=0
 . subst h0
   have:parN t 0=0:=by unfold parN;rw [ht.par0];rfl
   rw [this];simp
 . have:=ht.par_lt (by omega) hi
   rw [colS_at hi,colS_at (by omega)]
   simp [show 0<i by omega]
theorem blame_bd (t:TREE) (i:Nat):1<=blameT t i/\blameT t i<=3:=by
 unfold blameT
 split
 . omega
 . split<;>omega
theorem blame_met {t:TREE} (ht:TreeOK t) {s:List (List Int)} (hs:StoryOK t s) (he:((errList t s).length:Int)=fewT t) {i:Nat} (hi:i<t.2.1.length) (hm:metErr (errList t s) i=true):blameT t i≠1:=by
 obtain ⟨p,hp,h⟩:=(met_iff hi).1 hm
 have hv:everT t i:=⟨p,hp,List.countP_pos_iff.2 ⟨_,(stor_best (ht.at (p:=p) (by omega))).2 (best_cols ht hs he (by omega)),(err_col ht hi).2 h⟩⟩
 unfold blameT
 split
 . decide
 . first|decide|(rw [if_pos hv];decide)
theorem blame_not {t:TREE} (ht:TreeOK t) {s:List (List Int)} (hs:StoryOK t s) (he:((errList t s).length:Int)=fewT t) {i:Nat} (hi:i<t.2.1.length) (hm:metErr (errList t s) i=false):blameT t i≠3:=by
 intro h3
 have ha:alwaysT t i:=by
  unfold blameT at h3
  split at h3
  . assumption
  . split at h3<;>omega
 obtain ⟨p,hp,h⟩:=ha
 have h1:=(List.countP_eq_length.1 h) _ ((stor_best (ht.at (p:=p) (by omega))).2 (best_cols ht hs he (by omega)))
 have h2:=(met_iff hi).2 ⟨p,hp,(err_col ht hi).1 h1⟩
 rw [hm] at h2
 cases h2
theorem law8_in (w l:List ERR) (ws:List Int) (i n0:Nat) (hl:l.length<1000000):∀ (d n k:Nat) (met:Bool),d<n->k+d=l.length->∃ n',L8_1 fuel n0 n (ws,(0,())) (l,(0,())) i met k=L8_1 fuel n0 (n'+1) (ws,(0,())) (l,(0,())) i (met || (l.drop k).any fun e=>e.1==(i:Int)) (l.length:Int)
 | 0,n,k,met,hd,hk=>by
  obtain ⟨n,rfl⟩:=succ_of hd
  obtain rfl:k=l.length:=by omega
  refine ⟨n,?_⟩
  rw [List.drop_length]
  simp
 | d+1,n,k,met,hd,hk=>by
  obtain ⟨n,rfl⟩:=succ_of (show 0<n by omega)
  have hkl:k<l.length:=by omega
  have e1:l.drop k=l.getD k (0,(0,())) :: l.drop (k+1):=by
   rw [List.drop_eq_getElem_cons hkl,List.getD_eq_getElem?_getD,List.getElem?_eq_getElem hkl];rfl
  obtain ⟨n',h'⟩:=law8_in w l ws i n0 hl d n (k+1) (met || (l.getD k (0,(0,()))).1==(i:Int)) (by omega) (by omega)
  refine ⟨n',?_⟩
  rw [e1,List.any_cons,<- Bool.or_assoc,<- h',L8_1_succ]
  try delta lenI
  cases met with
  | true=>simp only [dT (show (k:Int)<l.length by omega),wn (show k<1000000000 by omega),Bool.true_or]
  | false=>simp only [dT (show (k:Int)<l.length by omega),wn (show k<1000000000 by omega),inbT (show (0:Int)<=k by omega) (show (k:Int)<l.length by omega),cond_true,Int.toNat_natCast,Bool.false_or]
theorem law8_loop {t:TREE} (ht:TreeOK t) {s:List (List Int)} (hs:StoryOK t s) (he:((errList t s).length:Int)=fewT t):L8_0 fuel fuel (blamesT t,(0,())) (errList t s,(0,())) 0 = .ret true:=by
 have hfb:=fuel_big
 have hc:=ht.copies
 have hb:(blamesT t).length=t.2.1.length:=by unfold blamesT;simp
 have hl:(errList t s).length<1000000:=by
  have:=errs_len ht s
  have h1:=ht.places
  have h3:(t.2.1.length:Int) * t.1<=8 * 3:=Int.mul_le_mul (by omega) (by omega) (by omega) (by omega)
  omega
 have key:=runL (L:=fun n i=>L8_0 fuel n (blamesT t,(0,())) (errList t s,(0,())) i) (len:=t.2.1.length) (K:=.ret true) (fun n i hi=>?_) (fun n=>?_) t.2.1.length fuel 0 (by omega) (by omega)
 . exact key
 . try dsimp only
   rw [L8_0_succ]
   obtain ⟨n',h'⟩:=law8_in [] (errList t s) (blamesT t) i n hl (errList t s).length fuel 0 false (by omega) (by omega)
   have h'':L8_1 fuel n fuel (blamesT t,(0,())) (errList t s,(0,())) i false 0=_:=h'
   rw [List.drop_zero,Bool.false_or] at h''
   have e1:(blamesT t).getD i 0=blameT t i:=by unfold blamesT;exact rangeMap_getD hi
   have bd:=blame_bd t i
   have hm:(errList t s).any (fun e=>e.1==(i:Int))=metErr (errList t s) i:=rfl
   rw [hm] at h''
   try delta lenI
   simp only [hb,dT (show (i:Int)<t.2.1.length by omega),h'']
   rw [L8_1_succ]
   try delta lenI
   simp only [hb,dF (show ¬ (((errList t s).length:Nat):Int)<(errList t s).length by omega),inbT (show (0:Int)<=i by omega) (show (i:Int)<t.2.1.length by omega),cond_true,Int.toNat_natCast,e1,dF (show ¬ blameT t i<1 by omega),dF (show ¬ blameT t i > 3 by omega),wn (show i<1000000000 by omega)]
   cases m:metErr (errList t s) i with
   | true=>simp only [eF (blame_met ht hs he hi m),nt]
   | false=>simp only [eF (blame_not ht hs he hi m),nf]
 . try dsimp only
   rw [L8_0_succ]
   try delta lenI
   simp only [hb,dF (show ¬ ((t.2.1.length:Nat):Int)<t.2.1.length by omega),known_true]
theorem law8 (t:TREE) (s:List (List Int)) (a b:Int):f8 (t,(s,(a,(b,())))) = .ret true:=by
 show F8 fuel (t,(s,(a,(b,()))))=_
 unfold F8
 simp only [f22v_eq,f31v_eq,f32v_eq,f18v_eq,f39v_eq,f24v_eq,f35v_eq,f36v_eq,f33v_eq,f19v_eq,f23v_eq]
 rcases f22_at t with h22|⟨h22,ht⟩
 . simp only [h22,nf,known_true]
 obtain ⟨c,h31⟩:=f31_at s
 simp only [h22,nt,h31]
 cases c with
 | false=>simp only [nf,known_true]
 | true =>
  simp only [nt]
  rcases story_ret ht s with ⟨hs,h32,_⟩|⟨hs,h32,_⟩
  rotate_left
  . simp only [h32,nf,known_true]
  have hsm:=ht.small
  simp only [h32,nt,f18_at (t:=t) _ hsm]
  rcases copy_cases t a with ⟨ha,ea⟩|⟨ha,ea⟩
  rotate_left
  . simp only [ea,nf,known_true]
  simp only [ea,nt,f39_at ht]
  rcases place_cases t b with ⟨hb,eb⟩|⟨hb,eb⟩
  rotate_left
  . simp only [eb,nf,known_true]
  obtain ⟨i,rfl,hi⟩:=ha.nat
  obtain ⟨p,rfl,hp⟩:=hb.nat
  have hbl:(blamesT t).length=t.2.1.length:=by unfold blamesT;simp
  have hc8:=ht.copies
  have l1:(lenI (blamesT t) != lenI t.2.1)=false:=nF (by delta lenI;rw [hbl])
  have l2:((blamesT t).getD 0 0 != (1:Int))=false:=nF (by unfold blamesT;rw [rangeMap_getD (by omega)];exact blame_zero ht)
  have hcp:=can_pos ht hi hp
  have hcl:=can_len8 t i p
  have l3:(lenI (canT t i p)==(0:Int))=false:=eF (by delta lenI;omega)
  have l4:decide (lenI (canT t i p) > 10)=false:=dF (by delta lenI;omega)
  have hsl:=hs.len
  have hrow:=(hs.row i (by omega)).len
  have hnode:((t.2.1.getD i NODE0).2.1.length:Int)=t.1:=(ht.node i hi).len
  have es:seenAt t i p=(t.2.1.getD i NODE0).2.1.getD p 0:=seenAt_node t i p
  have z0:(0:Int).toNat=0:=rfl
  simp only [eb,nt,f24_at ht,f35_at ht,f36_at ht hi hp,f33_at ht hs,n00,l1,hbl,inbT (Int.le_refl 0) (show (0:Int)<(t.2.1.length:Int) by omega),z0,cond_true,l2,l3,l4,errs_lenw ht s,inbT (show (0:Int)<=i by omega) (show (i:Int)<t.2.1.length by omega),Int.toNat_natCast,inbT (show (0:Int)<=p by omega) (show (p:Int)<(t.2.1.getD i NODE0).2.1.length by omega),
   inbT (show (0:Int)<=i by omega) (show (i:Int)<s.length by omega),inbT (show (0:Int)<=p by omega) (show (p:Int)<(s.getD i []).length by omega),f23_at (canT t i p) _ (show (canT t i p).length<1000000 by omega),f19_at (canT t i p) _ (show (canT t i p).length<1000000 by omega)]
  have fin:(match (lenI (errList t s) != fewT t) with
   | true=>(Out.ret true:Out Bool)
   | false=>match (!(decide ((s.getD i []).getD p 0∈canT t i p))) with
    | true=>.ret false
    | false=>L8_0 fuel fuel (blamesT t,(0,())) (errList t s,(0,())) 0) = .ret true:=by
   by_cases he:((errList t s).length:Int)=fewT t
   . have hm:(s.getD i []).getD p 0∈canT t i p:=cell_can ht hs he hi hp
     simp only [nF (show lenI (errList t s)=fewT t from he),dT hm,nt,law8_loop ht hs he]
   . simp only [nT (show lenI (errList t s)≠fewT t from he)]
  by_cases hsn:(t.2.1.getD i NODE0).2.1.getD p 0 >= 0
  . have hcs:canT t i p=[(t.2.1.getD i NODE0).2.1.getD p 0]:=by rw [<- es];exact can_seen ht hi hp (by rw [es];exact hsn)
    simp only [dT hsn,dT hcs,nt,known_true]
    exact fin
  . simp only [dF hsn,known_true]
    exact fin
end Go.V
end
