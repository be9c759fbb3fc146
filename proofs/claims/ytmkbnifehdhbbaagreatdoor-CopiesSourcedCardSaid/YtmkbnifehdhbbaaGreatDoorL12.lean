/- What law 12 of the copies needs beyond what all laws need: functions read, and the plain law. -/
import Derived.Test.YtmkbnifehdhbbaaGreatDoorQL
import Derived.Test.YtmkbnifehdhbbaaGreatDoorCR2
import Derived.Test.YtmkbnifehdhbbaaGreatDoorCRA
set_option linter.all false
noncomputable section
namespace Go.V
open Go.Proofs
def specs13:List Spec:=[]
def hints13:List (Nat×List Nat):=[(2,[1,3])]
def L13_0 (N:Nat) (n_L13_0:Nat) (x:lt1) (i_1:Int):Out Bool :=
 vloop Tryz.prog (phi specs13) hints13 N Tryz.f13 false false .bool [.at 1,.at 0,.at 1,.at 0] n_L13_0 [U,.box [.d (.int .i64) x.1.1,.d ty0 x.1.2.1],U,.d (.int .i64) i_1,U,U,U,U,U,U,U,U,U,U,U,U,U,U,U,U,U,U,U,U,U,U,U]
theorem L13_0_succ (N:Nat) (n_L13_0:Nat) (x:lt1) (i_1:Int):L13_0 N  (n_L13_0+1) x i_1 =
 (match (decide (i_1<(lenI x.1.2.1))) with|true=>(match (decide (i_1<10)) with|true=>bif (inb i_1 x.1.2.1.length) then match (decide ((lenI ((List.getD x.1.2.1 i_1.toNat (0,([],())))).2.1) > 5)) with|true=>.ret false|false=>L13_0 N n_L13_0 x (IntKind.i64.wrap (i_1+1)) else .fail|false=>.ret (decide ((lenI x.1.2.1)<=10)))|false=>.ret (decide ((lenI x.1.2.1)<=10)):Out Bool):=by kernel_rfl
def F13 (N:Nat) (x:lt1):Out Bool:=L13_0 N N x 0
theorem e13 (N:Nat) (x:lt1):vfn Tryz.prog (phi specs13) hints13 N Tryz.f13 false false ty2 .bool x=F13 N x:=by kernel_rfl
def f13 (x:lt1):Out Bool:=F13 fuel x
def sp13:Spec:=⟨13,.call,ty2,.bool,false,false,f13⟩
theorem c13:Contract Tryz.prog sp13:=contract_at (l:=specs13) (arg:=ty2) (res:=.bool) (multi:=false) (own:=false) (F:=f13) mixed all_nil Tryz.func13 rfl hints13 fun x _=>⟨fuel,e13 fuel x⟩
def specs23:List Spec:=[]
def hints23:List (Nat×List Nat):=[(2,[0,1,5])]
def L23_0 (N:Nat) (n_L23_0:Nat) (x:lt2) (i_1:Int):Out Bool :=
 vloop Tryz.prog (phi specs23) hints23 N Tryz.f23 false false .bool [.at 1,.at 0,.at 1,.at 0] n_L23_0 [.d (.list (.int .i64)) x.1,.d (.int .i64) x.2.1,U,U,U,.d (.int .i64) i_1,U,U,U,U,U,U,U,U,U,U,U,U]
theorem L23_0_succ (N:Nat) (n_L23_0:Nat) (x:lt2) (i_1:Int):L23_0 N  (n_L23_0+1) x i_1 =
 (match (decide (i_1<(lenI x.1))) with|true=>bif (inb i_1 x.1.length) then match ((List.getD x.1 i_1.toNat 0)==x.2.1) with|true=>.ret true|false=>L23_0 N n_L23_0 x (IntKind.i64.wrap (i_1+1)) else .fail|false=>.ret false:Out Bool):=by kernel_rfl
def F23 (N:Nat) (x:lt2):Out Bool:=L23_0 N N x 0
theorem e23 (N:Nat) (x:lt2):vfn Tryz.prog (phi specs23) hints23 N Tryz.f23 false false ty3 .bool x=F23 N x:=by kernel_rfl
def f23 (x:lt2):Out Bool:=F23 fuel x
def sp23:Spec:=⟨23,.call,ty3,.bool,false,false,f23⟩
theorem c23:Contract Tryz.prog sp23:=contract_at (l:=specs23) (arg:=ty3) (res:=.bool) (multi:=false) (own:=false) (F:=f23) mixed all_nil Tryz.func23 rfl hints23 fun x _=>⟨fuel,e23 fuel x⟩
def specs31:List Spec:=[]
def hints31:List (Nat×List Nat):=[(2,[0,3])]
def L31_0 (N:Nat) (n_L31_0:Nat) (x:((List (List Int))×Unit)) (i_1:Int):Out Bool :=
 vloop Tryz.prog (phi specs31) hints31 N Tryz.f31 false false .bool [.at 1,.at 0,.at 1,.at 0] n_L31_0 [.d ty1 x.1,U,U,.d (.int .i64) i_1,U,U,U,U,U,U,U,U,U,U,U,U,U,U,U,U,U,U,U]
theorem L31_0_succ (N:Nat) (n_L31_0:Nat) (x:((List (List Int))×Unit)) (i_1:Int):L31_0 N  (n_L31_0+1) x i_1 =
 (match (decide (i_1<(lenI x.1))) with|true=>(match (decide (i_1<12)) with|true=>bif (inb i_1 x.1.length) then match (decide ((lenI (List.getD x.1 i_1.toNat [])) > 5)) with|true=>.ret false|false=>L31_0 N n_L31_0 x (IntKind.i64.wrap (i_1+1)) else .fail|false=>.ret (decide ((lenI x.1)<=10)))|false=>.ret (decide ((lenI x.1)<=10)):Out Bool):=by kernel_rfl
def F31 (N:Nat) (x:((List (List Int))×Unit)):Out Bool:=L31_0 N N x 0
theorem e31 (N:Nat) (x:((List (List Int))×Unit)):vfn Tryz.prog (phi specs31) hints31 N Tryz.f31 false false (.prod (.list (.list (.int .i64))) .unit) .bool x=F31 N x:=by kernel_rfl
def f31 (x:((List (List Int))×Unit)):Out Bool:=F31 fuel x
def sp31:Spec:=⟨31,.call,(.prod (.list (.list (.int .i64))) .unit),.bool,false,false,f31⟩
theorem c31:Contract Tryz.prog sp31:=contract_at (l:=specs31) (arg:=(.prod (.list (.list (.int .i64))) .unit)) (res:=.bool) (multi:=false) (own:=false) (F:=f31) mixed all_nil Tryz.func31 rfl hints31 fun x _=>⟨fuel,e31 fuel x⟩
def specs61:List Spec:=[]
def hints61:List (Nat×List Nat):=[]
theorem e61 (N:Nat) (x:(Int×(Int×(Int×Unit)))):vfn Tryz.prog (phi specs61) hints61 N Tryz.f61 false false ty10 .bool x=F61 N x:=by kernel_rfl
theorem c61:Contract Tryz.prog sp61:=contract_at (l:=specs61) (arg:=ty10) (res:=.bool) (multi:=false) (own:=false) (F:=f61) mixed all_nil Tryz.func61 rfl hints61 fun x _=>⟨fuel,e61 fuel x⟩
def specs18:List Spec:=[sp61]
def hints18:List (Nat×List Nat):=[]
def F18 (N:Nat) (x:lt4):Out Bool:=match f61 (x.2.1,(0,((IntKind.i64.wrap ((lenI x.1.2.1) - 1)),()))) with | .ret r=>.ret r | .pan p=>.pan p | .fail=>.fail
theorem e18 (N:Nat) (x:lt4):vfn Tryz.prog (phi specs18) hints18 N Tryz.f18 false false ty6 .bool x=F18 N x:=by kernel_rfl
def f18 (x:lt4):Out Bool:=F18 fuel x
def sp18:Spec:=⟨18,.call,ty6,.bool,false,false,f18⟩
theorem c18:Contract Tryz.prog sp18:=contract_at (l:=specs18) (arg:=ty6) (res:=.bool) (multi:=false) (own:=false) (F:=f18) mixed (all_cons c61 all_nil) Tryz.func18 rfl hints18 fun x _=>⟨fuel,e18 fuel x⟩
def specs39:List Spec:=[sp61]
def hints39:List (Nat×List Nat):=[]
def F39 (N:Nat) (x:lt4):Out Bool:=match f61 (x.2.1,(0,((IntKind.i64.wrap (x.1.1 - 1)),()))) with | .ret r=>.ret r | .pan p=>.pan p | .fail=>.fail
theorem e39 (N:Nat) (x:lt4):vfn Tryz.prog (phi specs39) hints39 N Tryz.f39 false false ty6 .bool x=F39 N x:=by kernel_rfl
def f39 (x:lt4):Out Bool:=F39 fuel x
def sp39:Spec:=⟨39,.call,ty6,.bool,false,false,f39⟩
theorem c39:Contract Tryz.prog sp39:=contract_at (l:=specs39) (arg:=ty6) (res:=.bool) (multi:=false) (own:=false) (F:=f39) mixed (all_cons c61 all_nil) Tryz.func39 rfl hints39 fun x _=>⟨fuel,e39 fuel x⟩
def specs46:List Spec:=[sp61]
def hints46:List (Nat×List Nat):=[]
theorem e46 (N:Nat) (x:(Int×Unit)):vfn Tryz.prog (phi specs46) hints46 N Tryz.f46 false false (.prod (.int .i64) .unit) .bool x=F46 N x:=by kernel_rfl
theorem c46:Contract Tryz.prog sp46:=contract_at (l:=specs46) (arg:=(.prod (.int .i64) .unit)) (res:=.bool) (multi:=false) (own:=false) (F:=f46) mixed (all_cons c61 all_nil) Tryz.func46 rfl hints46 fun x _=>⟨fuel,e46 fuel x⟩
theorem e17 (N:Nat) (x:lt1):vfn Tryz.prog (phi specs17) hints17 N Tryz.f17 false false ty2 .bool x=F17 N x:=by kernel_rfl
def sp17:Spec:=⟨17,.call,ty2,.bool,false,false,f17⟩
theorem c17:Contract Tryz.prog sp17:=contract_at (l:=specs17) (arg:=ty2) (res:=.bool) (multi:=false) (own:=false) (F:=f17) mixed (all_cons c61 (all_cons c46 all_nil)) Tryz.func17 rfl hints17 fun x _=>⟨fuel,e17 fuel x⟩
def specs22:List Spec:=[sp13,sp17]
def hints22:List (Nat×List Nat):=[]
def F22 (N:Nat) (x:lt1):Out Bool:=match f13 (x.1,()) with | .ret r_1=>(match r_1 with|true=>(match f17 (x.1,()) with | .ret r=>.ret r | .pan p=>.pan p | .fail=>.fail)|false=>.ret false) | .pan p=>.pan p | .fail=>.fail
theorem e22 (N:Nat) (x:lt1):vfn Tryz.prog (phi specs22) hints22 N Tryz.f22 false false ty2 .bool x=F22 N x:=by kernel_rfl
def f22 (x:lt1):Out Bool:=F22 fuel x
def sp22:Spec:=⟨22,.call,ty2,.bool,false,false,f22⟩
theorem c22:Contract Tryz.prog sp22:=contract_at (l:=specs22) (arg:=ty2) (res:=.bool) (multi:=false) (own:=false) (F:=f22) mixed (all_cons c13 (all_cons c17 all_nil)) Tryz.func22 rfl hints22 fun x _=>⟨fuel,e22 fuel x⟩
theorem e32 (N:Nat) (x:lt3):vfn Tryz.prog (phi specs32) hints32 N Tryz.f32 false false ty4 .bool x=F32 N x:=by kernel_rfl
def sp32:Spec:=⟨32,.call,ty4,.bool,false,false,f32⟩
theorem c32:Contract Tryz.prog sp32:=contract_at (l:=specs32) (arg:=ty4) (res:=.bool) (multi:=false) (own:=false) (F:=f32) mixed (all_cons c46 all_nil) Tryz.func32 rfl hints32 fun x _=>⟨fuel,e32 fuel x⟩
end Go.V
namespace Go.V
open Go.Proofs
theorem f23_at (l:List Int) (x:Int) (h:l.length<1000000):f23 (l,(x,())) = .ret (decide (x∈l)):=by
 have hfb:=fuel_big
 unfold f23 F23
 have key:=findL (L:=fun n i=>L23_0 fuel n (l,(x,())) i) (len:=l.length) (K:=.ret false) (fun i=>l.getD i 0=x) (fun _=>.ret true) (fun n i hi=>?_) (fun n=>?_) l.length fuel 0 (by omega) (by omega)
 . rcases key with ⟨j,h1,h2,h3,h4,h5⟩|⟨h1,h2⟩
   . rw [show L23_0 fuel fuel (l,(x,())) 0=_ from h5,dT (show x∈l by rw [<- h3];exact getD_mem h2)]
   . rw [show L23_0 fuel fuel (l,(x,())) 0=_ from h2,dF fun hm=>?_]
     obtain ⟨i,hi,he⟩:=mem_getD hm
     exact h1 i (Nat.zero_le _) hi he
 . try dsimp only
   rw [L23_0_succ]
   try delta lenI
   simp only [dT (show (i:Int)<l.length by omega),inbT (show (0:Int)<=i by omega) (show (i:Int)<l.length by omega),cond_true,Int.toNat_natCast,wn (show i<1000000000 by omega)]
   by_cases g:l.getD i 0=x
   . simp only [eT g];exact .inl ⟨g,trivial⟩
   . simp only [eF g];exact .inr ⟨g,trivial⟩
 . try dsimp only
   rw [L23_0_succ]
   try delta lenI
   simp only [dF (show ¬ ((l.length:Nat):Int)<l.length by omega)]
theorem f13_at (t:TREE):∃ b,f13 (t,()) = .ret b:=by
 have hfb:=fuel_big
 unfold f13 F13
 have done:∀ n i:Nat,¬ (i:Int)<t.2.1.length\/¬ i<10->∃ b,L13_0 fuel (n+1) (t,()) i = .ret b:=fun n i h=>by
  rw [L13_0_succ]
  try delta lenI
  by_cases h1:(i:Int)<t.2.1.length
  . have h2:¬ (i:Int)<10:=by rcases h with h|h<;>omega
    simp only [dT h1,dF h2]
    exact ⟨_,rfl⟩
  . simp only [dF h1]
    exact ⟨_,rfl⟩
 have loop:∀ (d n i:Nat),d<n->i+d=10->∃ b,L13_0 fuel n (t,()) i = .ret b:=by
  intro d
  induction d with
  | zero =>
   intro n i hn hi
   obtain ⟨n,rfl⟩:=succ_of hn
   exact done n i (.inr (by omega))
  | succ d ih =>
   intro n i hn hi
   obtain ⟨n,rfl⟩:=succ_of hn
   by_cases h1:(i:Int)<t.2.1.length
   . rw [L13_0_succ]
     try delta lenI
     simp only [dT h1,dT (show (i:Int)<10 by omega),inbT (show (0:Int)<=i by omega) h1,cond_true,wn (show i<1000000000 by omega)]
     split
     . exact ⟨_,rfl⟩
     . exact ih n (i+1) (by omega) (by omega)
   . exact done n i (.inl h1)
 exact loop 10 fuel 0 (by omega) (by omega)
theorem f18_at {t:TREE} (n:Int) (h:t.2.1.length<1000000):f18 (t,(n,())) = .ret (decide (0<=n/\n<t.2.1.length)):=by
 unfold f18 F18
 try delta lenI
 simp only [i61]
 rw [wr (by omega) (by omega)]
 by_cases h1:0<=n/\n<t.2.1.length
 . rw [dT h1,dT (by omega)]
 . rw [dF h1,dF (by omega)]
end Go.V
namespace Go.V
open Go.Proofs
theorem f22_at (t:TREE):f22 (t,()) = .ret false\/(f22 (t,()) = .ret true/\TreeOK t):=by
 obtain ⟨b,h⟩:=f13_at t
 unfold f22 F22
 cases b with
 | false=>simp only [h];exact .inl trivial
 | true =>
  simp only [h]
  rcases tree_ret (t:=t) with ⟨h1,h2,_⟩|⟨h1,h2,_⟩
  . simp only [h2];exact .inr ⟨trivial,h1⟩
  . simp only [h2];exact .inl trivial
theorem f31_at (s:List (List Int)):∃ b,f31 (s,()) = .ret b:=by
 have hfb:=fuel_big
 unfold f31 F31
 have done:∀ n i:Nat,¬ (i:Int)<s.length\/¬ i<12->∃ b,L31_0 fuel (n+1) (s,()) i = .ret b:=fun n i h=>by
  rw [L31_0_succ]
  try delta lenI
  by_cases h1:(i:Int)<s.length
  . have h2:¬ (i:Int)<12:=by rcases h with h|h<;>omega
    simp only [dT h1,dF h2]
    exact ⟨_,rfl⟩
  . simp only [dF h1]
    exact ⟨_,rfl⟩
 have loop:∀ (d n i:Nat),d<n->i+d=12->∃ b,L31_0 fuel n (s,()) i = .ret b:=by
  intro d
  induction d with
  | zero =>
   intro n i hn hi
   obtain ⟨n,rfl⟩:=succ_of hn
   exact done n i (.inr (by omega))
  | succ d ih =>
   intro n i hn hi
   obtain ⟨n,rfl⟩:=succ_of hn
   by_cases h1:(i:Int)<s.length
   . rw [L31_0_succ]
     try delta lenI
     simp only [dT h1,dT (show (i:Int)<12 by omega),inbT (show (0:Int)<=i by omega) h1,cond_true,wn (show i<1000000000 by omega)]
     split
     . exact ⟨_,rfl⟩
     . exact ih n (i+1) (by omega) (by omega)
   . exact done n i (.inl h1)
 exact loop 12 fuel 0 (by omega) (by omega)
end Go.V
namespace Go.V
open Go.Proofs
theorem f39_at {t:TREE} (ht:TreeOK t) (p:Int):f39 (t,(p,())) = .ret (decide (0<=p/\p<t.1)):=by
 have:=ht.places
 unfold f39 F39
 simp only [i61]
 rw [wr (by omega) (by omega)]
 by_cases h1:0<=p/\p<t.1
 . rw [dT h1,dT (by omega)]
 . rw [dF h1,dF (by omega)]
end Go.V
namespace Go.V
open Go.Proofs
@[irreducible] def f18v:lt4->Out Bool:=veil f18
theorem f18v_eq:f18v=f18:=by unfold f18v;exact veil_eq f18
def sp18v:Spec:=⟨18,.call,ty6,.bool,false,false,f18v⟩
theorem c18v:Contract Tryz.prog sp18v:=by
 unfold sp18v
 rw [f18v_eq]
 exact c18
@[irreducible] def f22v:lt1->Out Bool:=veil f22
theorem f22v_eq:f22v=f22:=by unfold f22v;exact veil_eq f22
def sp22v:Spec:=⟨22,.call,ty2,.bool,false,false,f22v⟩
theorem c22v:Contract Tryz.prog sp22v:=by
 unfold sp22v
 rw [f22v_eq]
 exact c22
@[irreducible] def f23v:lt2->Out Bool:=veil f23
theorem f23v_eq:f23v=f23:=by unfold f23v;exact veil_eq f23
def sp23v:Spec:=⟨23,.call,ty3,.bool,false,false,f23v⟩
theorem c23v:Contract Tryz.prog sp23v:=by
 unfold sp23v
 rw [f23v_eq]
 exact c23
@[irreducible] def f31v:((List (List Int))×Unit)->Out Bool:=veil f31
theorem f31v_eq:f31v=f31:=by unfold f31v;exact veil_eq f31
def sp31v:Spec:=⟨31,.call,(.prod (.list (.list (.int .i64))) .unit),.bool,false,false,f31v⟩
theorem c31v:Contract Tryz.prog sp31v:=by
 unfold sp31v
 rw [f31v_eq]
 exact c31
@[irreducible] def f32v:lt3->Out Bool:=veil f32
theorem f32v_eq:f32v=f32:=by unfold f32v;exact veil_eq f32
def sp32v:Spec:=⟨32,.call,ty4,.bool,false,false,f32v⟩
theorem c32v:Contract Tryz.prog sp32v:=by
 unfold sp32v
 rw [f32v_eq]
 exact c32
@[irreducible] def f39v:lt4->Out Bool:=veil f39
theorem f39v_eq:f39v=f39:=by unfold f39v;exact veil_eq f39
def sp39v:Spec:=⟨39,.call,ty6,.bool,false,false,f39v⟩
theorem c39v:Contract Tryz.prog sp39v:=by
 unfold sp39v
 rw [f39v_eq]
 exact c39
end Go.V
namespace Go.V
open Go.Proofs
theorem b00:((0:Int)==0)=true:=rfl
theorem n00:((0:Int) != 0)=false:=rfl
theorem b50:((5:Int)==0)=false:=rfl
theorem n50:((5:Int) != 0)=true:=rfl
theorem nt:(!true)=false:=rfl
theorem nf:(!false)=true:=rfl
theorem copy_cases (t:TREE) (n:Int):(IsCopy t n/\decide (0<=n/\n<(t.2.1.length:Int))=true)\/(¬ IsCopy t n/\decide (0<=n/\n<(t.2.1.length:Int))=false):=by
 by_cases h:0<=n/\n<(t.2.1.length:Int)
 . exact .inl ⟨⟨h.1,h.2⟩,dT h⟩
 . exact .inr ⟨fun h2=>h ⟨h2.l,h2.h⟩,dF h⟩
theorem place_cases (t:TREE) (n:Int):(IsPlace t n/\decide (0<=n/\n<t.1)=true)\/(¬ IsPlace t n/\decide (0<=n/\n<t.1)=false):=by
 by_cases h:0<=n/\n<t.1
 . exact .inl ⟨⟨h.1,h.2⟩,dT h⟩
 . exact .inr ⟨fun h2=>h ⟨h2.l,h2.h⟩,dF h⟩
theorem IsCopy.nat {t:TREE} {n:Int} (h:IsCopy t n):∃ i:Nat,n=i/\i<t.2.1.length:=⟨n.toNat,by have:=h.l;omega,by have:=h.l;have:=h.h;omega⟩
theorem IsPlace.nat {t:TREE} {n:Int} (h:IsPlace t n):∃ i:Nat,n=i/\(i:Int)<t.1:=⟨n.toNat,by have:=h.l;omega,by have:=h.l;have:=h.h;omega⟩
theorem TreeOK.small {t:TREE} (h:TreeOK t):t.2.1.length<1000000:=by have:=h.copies;omega
theorem path_small {t:TREE} (ht:TreeOK t) {n:Int} (h:IsCopy t n):(pathV t n).length<1000000:=by have:=path_len ht h.l h.h;have:=ht.copies;omega
end Go.V
namespace Go.V
open Go.Proofs
theorem StoryOK.cell {t:TREE} {s:List (List Int)} (h:StoryOK t s) {i p:Nat} (hi:i<t.2.1.length) (hp:(p:Int)<t.1):FigOK t s i p:=by
 have hr:=h.row i (by rw [h.len];exact hi)
 exact hr.cell p (by have:=hr.len;omega)
theorem TreeOK.par_lt {t:TREE} (h:TreeOK t) {i:Nat} (h0:0<i) (hi:i<t.2.1.length):parN t i<i:=by
 have:=h.par i h0 hi
 unfold parN;omega
end Go.V
namespace Go.V
open Go.Proofs
theorem mem_errs {t:TREE} {s:List (List Int)} {e:ERR}:e∈errList t s<->∃ i p:Nat,i<t.2.1.length/\p<t.1.toNat/\isErr t s i p=true/\e=((i:Int),((p:Int),())):=by
 unfold errList errRow errCell
 simp only [List.mem_flatMap,List.mem_range]
 constructor
 . rintro ⟨i,hi,p,hp,h⟩
   split at h
   . next h1=>exact ⟨i,p,hi,hp,h1,by simpa using h⟩
   . cases h
 . rintro ⟨i,p,hi,hp,h1,rfl⟩
   exact ⟨i,hi,p,hp,by rw [if_pos h1];simp⟩
theorem errs_len {t:TREE} (ht:TreeOK t) (s:List (List Int)):((errList t s).length:Int)<=t.2.1.length * t.1:=by
 have h:(errList t s).length<=t.2.1.length * (t.1.toNat * 1):=flat_len fun i _=>errRow_len t s _ i
 have:=ht.places
 have e:((t.2.1.length * (t.1.toNat * 1):Nat):Int)=t.2.1.length * t.1:=by
  rw [Nat.mul_one,Int.natCast_mul,Int.toNat_of_nonneg (by omega)]
 omega
theorem errs_lenw {t:TREE} (ht:TreeOK t) (s:List (List Int)):decide (lenI (errList t s) > IntKind.i64.wrap (lenI t.2.1 * t.1))=false:=by
 have h:=errs_len ht s
 have h1:=ht.places
 have h2:=ht.copies
 have h3:(t.2.1.length:Int) * t.1<=8 * 3:=Int.mul_le_mul (by omega) (by omega) (by omega) (by omega)
 delta lenI
 rw [wr (by omega) (by omega)]
 exact dF (by omega)
end Go.V
namespace Go.V
open Go.Proofs
def specs12:List Spec:=[sp22v,sp14v,sp31v,sp32v,sp39v,sp18v,sp33v,sp45v,sp15v,sp23v]
def hints12:List (Nat×List Nat):=[(11,[2,3,4,9,10,12,14,16,17,18]),(21,[12,14,20])]
def L12_1 (N:Nat) (n_L12_1:Nat) (r_23:lt2) (r_25:lt2) (i_32:Int):Out Bool :=
 vloop Tryz.prog (phi specs12) hints12 N Tryz.f12 false false .bool [.at 1,.at 1,.at 1,.at 1,.at 1,.at 1,.at 1,.at 1,.at 1,.at 1,.at 0,.at 1,.at 1,.at 0,.at 1,.at 0] n_L12_1 [U,U,U,U,U,U,U,U,U,U,U,U,.d (.list (.int .i64)) r_23.1,U,.d (.list (.int .i64)) r_25.1,U,U,U,U,U,.d (.int .i64) i_32,U,U,U,U,U,U,U,U,U,U,U,U,U,U,U,U,U,U,U,U,U,U,U,U,U,U,U,U,U,U,U,U,U,U,U,U,U,U,U,U,U,U,U,U,U,U,U,U,U,U,U,U,U,U,U,U,U,U,U,U,U,U,U,U,U,U,U,U,U,U,U,U,U,U,U,U,U,U,U,U,U,U,U,U,U,U,U,U,U,U,U,U,U,U,U,U,U,U,U,U,U,U,U,U,U,U,U,U,U,U,U,U,U,U,U,U,U,U,U,U,U,U,U,U,U,U,U,U,U,U,U,U,U,U,U,U,U,U,U,U,U,U,U,U,U,U,U,U,U,U,U,U,U,U,U,U,U,U,U]
def L12_0 (N:Nat) (n_L12_0:Nat) (x:((Int×((List (Int×((List Int)×Unit)))×Unit))×((List (List Int))×(Int×(Int×Unit))))) (r_21:lt13) (r_23:lt2) (r_25:lt2) (n_27:Int) (at_28:Int) (i_29:Int):Out Bool :=
 vloop Tryz.prog (phi specs12) hints12 N Tryz.f12 false false .bool [.at 1,.at 1,.at 1,.at 1,.at 1,.at 1,.at 1,.at 1,.at 0,.at 1,.at 0] n_L12_0 [U,U,.d (.int .i64) x.2.2.1,.d (.int .i64) x.2.2.2.1,.box [.d (.int .i64) x.1.1,.d ty0 x.1.2.1],U,U,U,U,.d (.int .i64) (List.getD (List.getD x.2.1 (0:Int).toNat ([]:List Int)) x.2.2.1.toNat (0:Int)),.d (.list (.prod (.int .i64) (.prod (.int .i64) .unit))) r_21.1,U,.d (.list (.int .i64)) r_23.1,U,.d (.list (.int .i64)) r_25.1,U,.d (.int .i64) n_27,.d (.int .i64) at_28,.d (.int .i64) i_29,U,U,U,U,U,U,U,U,U,U,U,U,U,U,U,U,U,U,U,U,U,U,U,U,U,U,U,U,U,U,U,U,U,U,U,U,U,U,U,U,U,U,U,U,U,U,U,U,U,U,U,U,U,U,U,U,U,U,U,U,U,U,U,U,U,U,U,U,U,U,U,U,U,U,U,U,U,U,U,U,U,U,U,U,U,U,U,U,U,U,U,U,U,U,U,U,U,U,U,U,U,U,U,U,U,U,U,U,U,U,U,U,U,U,U,U,U,U,U,U,U,U,U,U,U,U,U,U,U,U,U,U,U,U,U,U,U,U,U,U,U,U,U,U,U,U,U,U,U,U,U,U,U,U,U,U,U,U,U,U,U]
theorem L12_1_succ (N:Nat) (n_L12_1:Nat) (r_23:lt2) (r_25:lt2) (i_32:Int):L12_1 N  (n_L12_1+1) r_23 r_25 i_32 =
 (match (decide (i_32<(lenI r_23.1))) with|true=>bif (inb i_32 r_23.1.length) then match f23v (r_25.1,((List.getD r_23.1 i_32.toNat 0),())) with | .ret r_33=>(match (!r_33) with|true=>.ret false|false=>L12_1 N n_L12_1 r_23 r_25 (IntKind.i64.wrap (i_32+1))) | .pan p=>.pan p | .fail=>.fail else .fail|false=>match f14v () with | .ret r=>.ret r | .pan p=>.pan p | .fail=>.fail:Out Bool):=by kernel_rfl
theorem L12_0_succ (N:Nat) (n_L12_0:Nat) (x:((Int×((List (Int×((List Int)×Unit)))×Unit))×((List (List Int))×(Int×(Int×Unit))))) (r_21:lt13) (r_23:lt2) (r_25:lt2) (n_27:Int) (at_28:Int) (i_29:Int):L12_0 N  (n_L12_0+1) x r_21 r_23 r_25 n_27 at_28 i_29 =
 (match (decide (i_29<(lenI r_21.1))) with|true=>bif (inb i_29 r_21.1.length) then match (((List.getD r_21.1 i_29.toNat (0,(0,())))).2.1==x.2.2.1) with|true=>bif (inb i_29 r_21.1.length) then L12_0 N n_L12_0 x r_21 r_23 r_25 (IntKind.i64.wrap (n_27+1)) ((List.getD r_21.1 i_29.toNat (0,(0,())))).1 (IntKind.i64.wrap (i_29+1)) else .fail|false=>L12_0 N n_L12_0 x r_21 r_23 r_25 n_27 at_28 (IntKind.i64.wrap (i_29+1)) else .fail|false=>match (n_27==1) with|true=>(match f23v (r_23.1,(at_28,())) with | .ret r_30=>(match (!r_30) with|true=>.ret false|false=>bif (inb x.2.2.2.1 x.1.2.1.length) then bif (inb x.2.2.1 ((List.getD x.1.2.1 x.2.2.2.1.toNat (0,([],())))).2.1.length) then match (decide ((List.getD ((List.getD x.1.2.1 x.2.2.2.1.toNat (0,([],())))).2.1 x.2.2.1.toNat 0) >= 0)) with|true=>(match ((List.getD ((List.getD x.1.2.1 x.2.2.2.1.toNat (0,([],())))).2.1 x.2.2.1.toNat 0) != (List.getD (List.getD x.2.1 (0:Int).toNat []) x.2.2.1.toNat 0)) with|true=>L12_1 N N r_23 r_25 0|false=>match f14v () with | .ret r=>.ret r | .pan p=>.pan p | .fail=>.fail)|false=>match f14v () with | .ret r=>.ret r | .pan p=>.pan p | .fail=>.fail else .fail else .fail) | .pan p=>.pan p | .fail=>.fail)|false=>bif (inb x.2.2.2.1 x.1.2.1.length) then bif (inb x.2.2.1 ((List.getD x.1.2.1 x.2.2.2.1.toNat (0,([],())))).2.1.length) then match (decide ((List.getD ((List.getD x.1.2.1 x.2.2.2.1.toNat (0,([],())))).2.1 x.2.2.1.toNat 0) >= 0)) with|true=>(match ((List.getD ((List.getD x.1.2.1 x.2.2.2.1.toNat (0,([],())))).2.1 x.2.2.1.toNat 0) != (List.getD (List.getD x.2.1 (0:Int).toNat []) x.2.2.1.toNat 0)) with|true=>L12_1 N N r_23 r_25 0|false=>match f14v () with | .ret r=>.ret r | .pan p=>.pan p | .fail=>.fail)|false=>match f14v () with | .ret r=>.ret r | .pan p=>.pan p | .fail=>.fail else .fail else .fail:Out Bool):=by kernel_rfl
def F12 (N:Nat) (x:((Int×((List (Int×((List Int)×Unit)))×Unit))×((List (List Int))×(Int×(Int×Unit))))):Out Bool:=match f22v (x.1,()) with | .ret r_1=>(match (!r_1) with|true=>(match f14v () with | .ret r=>.ret r | .pan p=>.pan p | .fail=>.fail)|false=>match f31v (x.2.1,()) with | .ret r_5=>(match (!r_5) with|true=>(match f14v () with | .ret r=>.ret r | .pan p=>.pan p | .fail=>.fail)|false=>match f32v (x.1,(x.2.1,())) with | .ret r_9=>(match (!r_9) with|true=>(match f14v () with | .ret r=>.ret r | .pan p=>.pan p | .fail=>.fail)|false=>match f39v (x.1,(x.2.2.1,())) with | .ret r_13=>(match (!r_13) with|true=>(match f14v () with | .ret r=>.ret r | .pan p=>.pan p | .fail=>.fail)|false=>match f18v (x.1,(x.2.2.2.1,())) with | .ret r_17=>(match (!r_17) with|true=>(match f14v () with | .ret r=>.ret r | .pan p=>.pan p | .fail=>.fail)|false=>bif (inb 0 x.2.1.length) then bif (inb x.2.2.1 (List.getD x.2.1 (0:Int).toNat []).length) then match f33v (x.1,(x.2.1,())) with | .ret r_21=>(match f45v (x.1,(x.2.2.1,((List.getD (List.getD x.2.1 (0:Int).toNat []) x.2.2.1.toNat 0),()))) with | .ret r_23=>(match f15v (x.1,(x.2.2.2.1,())) with | .ret r_25=>(match (r_21.2.1 != 0) with|true=>.ret false|false=>match (r_23.2.1 != 0) with|true=>(match (r_23.2.1 != 5) with|true=>.ret false|false=>match (r_25.2.1 != 0) with|true=>.ret false|false=>match (decide ((lenI r_21.1) > (IntKind.i64.wrap ((lenI x.1.2.1) * x.1.1)))) with|true=>.ret false|false=>match (decide ((lenI r_23.1) >= (lenI x.1.2.1))) with|true=>.ret false|false=>match (decide ((lenI r_25.1) > (lenI x.1.2.1))) with|true=>.ret false|false=>match ((r_23.2.1==0) != (decide ((lenI r_23.1) > 0))) with|true=>.ret false|false=>L12_0 N N x r_21 r_23 r_25 0 0 0)|false=>match (r_25.2.1 != 0) with|true=>.ret false|false=>match (decide ((lenI r_21.1) > (IntKind.i64.wrap ((lenI x.1.2.1) * x.1.1)))) with|true=>.ret false|false=>match (decide ((lenI r_23.1) >= (lenI x.1.2.1))) with|true=>.ret false|false=>match (decide ((lenI r_25.1) > (lenI x.1.2.1))) with|true=>.ret false|false=>match ((r_23.2.1==0) != (decide ((lenI r_23.1) > 0))) with|true=>.ret false|false=>L12_0 N N x r_21 r_23 r_25 0 0 0) | .pan p=>.pan p | .fail=>.fail) | .pan p=>.pan p | .fail=>.fail) | .pan p=>.pan p | .fail=>.fail else .fail else .fail) | .pan p=>.pan p | .fail=>.fail) | .pan p=>.pan p | .fail=>.fail) | .pan p=>.pan p | .fail=>.fail) | .pan p=>.pan p | .fail=>.fail) | .pan p=>.pan p | .fail=>.fail
theorem e12 (N:Nat) (x:((Int×((List (Int×((List Int)×Unit)))×Unit))×((List (List Int))×(Int×(Int×Unit))))):vfn Tryz.prog (phi specs12) hints12 N Tryz.f12 false false (.prod (.prod (.int .i64) (.prod (.list (.prod (.int .i64) (.prod (.list (.int .i64)) .unit))) .unit)) (.prod (.list (.list (.int .i64))) (.prod (.int .i64) (.prod (.int .i64) .unit)))) .bool x=F12 N x:=by kernel_rfl
def f12 (x:((Int×((List (Int×((List Int)×Unit)))×Unit))×((List (List Int))×(Int×(Int×Unit))))):Out Bool:=F12 fuel x
def sp12:Spec:=⟨12,.call,(.prod (.prod (.int .i64) (.prod (.list (.prod (.int .i64) (.prod (.list (.int .i64)) .unit))) .unit)) (.prod (.list (.list (.int .i64))) (.prod (.int .i64) (.prod (.int .i64) .unit)))),.bool,false,false,f12⟩
theorem c12:Contract Tryz.prog sp12:=contract_at (l:=specs12) (arg:=(.prod (.prod (.int .i64) (.prod (.list (.prod (.int .i64) (.prod (.list (.int .i64)) .unit))) .unit)) (.prod (.list (.list (.int .i64))) (.prod (.int .i64) (.prod (.int .i64) .unit))))) (res:=.bool) (multi:=false) (own:=false) (F:=f12) mixed (all_cons c22v (all_cons c14v (all_cons c31v (all_cons c32v (all_cons c39v (all_cons c18v (all_cons c33v (all_cons c45v (all_cons c15v (all_cons c23v all_nil)))))))))) Tryz.func12 rfl hints12 fun x _=>⟨fuel,e12 fuel x⟩
end Go.V
namespace Go.V
open Go.Proofs
theorem one_cells {t:TREE} (ht:TreeOK t) {s:List (List Int)} {p e:Nat} (h1:∀ i,i<t.2.1.length->isErr t s i p=true->i=e):∀ n:Int,0<=n->n<t.2.1.length->cellAt s n.toNat p=if (e:Int)∈pathV t n then cellAt s e p else cellAt s 0 p:=by
 refine path_ind ht (P:=fun n=>cellAt s n.toNat p=if (e:Int)∈pathV t n then cellAt s e p else cellAt s 0 p) ?_ ?_
 . rw [path0]
   by_cases h:e=0
   . subst h;rw [if_pos (by simp)];rfl
   . rw [if_neg (by simp;exact h)];rfl
 . intro n h0 hn ih
   rw [path_up ht h0 hn]
   by_cases h:n=e
   . subst h;rw [if_pos (by simp)];rfl
   . have hne:isErr t s n.toNat p=false:=by
      cases g:isErr t s n.toNat p with
      | false=>rfl
      | true=>have:=h1 n.toNat (by omega) g;omega
     have hc:cellAt s n.toNat p=cellAt s (parN t n.toNat) p:=by
      unfold isErr at hne
      simp [show 0<n.toNat by omega] at hne
      exact hne
     have hpar:(parentAt t n.toNat).toNat=parN t n.toNat:=rfl
     rw [hpar] at ih
     rw [hc,ih]
     by_cases g:(e:Int)∈pathV t (parentAt t n.toNat)
     . rw [if_pos g,if_pos (by simp [g])]
     . rw [if_neg g,if_neg]
       intro hm
       rcases List.mem_cons.1 hm with hm|hm
       . exact h hm.symm
       . exact g hm
theorem one_src {t:TREE} (ht:TreeOK t) {s:List (List Int)} (hs:StoryOK t s) {p e:Nat} (hp:(p:Int)<t.1) (he:e<t.2.1.length) (h0:isErr t s e p=true) (h1:∀ i,i<t.2.1.length->isErr t s i p=true->i=e):(e:Int)∈srcT t p (cellAt s 0 p):=by
 have hc:=one_cells ht h1
 have hc8:=ht.copies
 have he0:0<e/\cellAt s e p≠cellAt s (parN t e) p:=by
  unfold isErr at h0
  simp at h0
  exact h0
 have hpl:=ht.par_lt he0.1 he
 have hne:cellAt s e p≠cellAt s 0 p:=by
  have h2:=hc (parN t e:Nat) (by omega) (by omega)
  rw [Int.toNat_natCast,if_neg] at h2
  . rw [h2] at he0;exact he0.2
  . intro hm
    have:=path_mem ht (n:=(parN t e:Nat)) (by omega) (by omega) hm
    omega
 have hfit:∀ i:Nat,i<t.2.1.length->seenAt t i p = -1\/seenAt t i p=cellAt s i p:=fun i hi=>fitsV_iff.1 (hs.cell hi hp).2
 have hu:∀ i:Nat,i<t.2.1.length->under t e i=true->cellAt s i p=cellAt s e p:=fun i hi hm=>by
  have h2:=hc i (by omega) (by omega)
  unfold under at hm
  rw [Int.toNat_natCast,if_pos (of_decide_eq_true hm)] at h2
  exact h2
 have h9:=(hs.cell (i:=0) (p:=p) (by omega) hp).1
 unfold srcT srcQ
 rw [List.mem_filter]
 refine ⟨mem_allTo.2 ⟨by omega,by omega⟩,?_⟩
 rw [Bool.and_eq_true]
 refine ⟨decide_eq_true (by omega),srcB_iff.2 ⟨fun i hi hm=>?_,fun i hi hm=>?_,fun i j hi mi hj mj g1 g2=>?_⟩⟩
 . rw [fitsV_iff]
   have h2:=hc i (by omega) (by omega)
   unfold under at hm
   rw [Int.toNat_natCast,if_neg (of_decide_eq_false hm)] at h2
   rw [<- h2]
   exact hfit i hi
 . have:=hu i hi hm
   rcases hfit i hi with h|h<;>omega
 . have:=hu i hi mi
   have:=hu j hj mj
   rcases hfit i hi with h|h
   . exact absurd h g1
   . rcases hfit j hj with g|g
     . exact absurd g g2
     . omega
theorem src_short {t:TREE} (ht:TreeOK t) (p right:Int):(srcT t p right).length<t.2.1.length:=by
 have hc:=ht.copies
 unfold srcT
 have h:((allTo t.2.1.length).filter (srcQ t p right)).length<(allTo t.2.1.length).length :=
  List.length_filter_lt_length_iff_exists.2 ⟨0,mem_allTo.2 ⟨Int.le_refl 0,by omega⟩,by unfold srcQ;simp⟩
 rw [allTo_len] at h
 exact h
def atP (p:Nat) (e:ERR):Bool:=e.2.1==(p:Int)
theorem count_one {l:List ERR} {q:ERR->Bool} (h:l.countP q=1) {a b:ERR} (ha:a∈l) (hb:b∈l) (qa:q a=true) (qb:q b=true):a=b:=by
 rw [List.countP_eq_length_filter] at h
 have h1:a∈l.filter q:=List.mem_filter.2 ⟨ha,qa⟩
 have h2:b∈l.filter q:=List.mem_filter.2 ⟨hb,qb⟩
 cases e:l.filter q with
 | nil=>rw [e] at h1;cases h1
 | cons x xs =>
  rw [e] at h h1 h2
  cases xs with
  | nil=>simp at h1 h2;rw [h1,h2]
  | cons y ys=>simp at h
theorem law12_in (t:TREE) (s:List (List Int)) (p:Nat) (b:Int) (l:List ERR) (x:List Int) (ex:Int) (pa:List Int) (hl:l.length<1000000):∀ (d n k:Nat) (m:Nat) (at_:Int),d<n->k+d=l.length->m<=k->m=(l.take k).countP (atP p)->(0<m->∃ e∈l,atP p e=true/\at_=e.1) ->
 ∃ n' at',(0<l.countP (atP p)->∃ e∈l,atP p e=true/\at'=e.1)/\L12_0 fuel n (t,(s,((p:Int),(b,())))) (l,(0,())) (x,(ex,())) (pa,(0,())) (m:Int) at_ (k:Int)=L12_0 fuel (n'+1) (t,(s,((p:Int),(b,())))) (l,(0,())) (x,(ex,())) (pa,(0,())) (l.countP (atP p):Nat) at' (l.length:Int)
 | 0,n,k,m,at_,hd,hk,hm,hmc,ha=>by
  obtain ⟨n,rfl⟩:=succ_of hd
  obtain rfl:k=l.length:=by omega
  rw [List.take_length] at hmc
  subst hmc
  exact ⟨n,at_,ha,rfl⟩
 | d+1,n,k,m,at_,hd,hk,hm,hmc,ha=>by
  obtain ⟨n,rfl⟩:=succ_of (show 0<n by omega)
  have hkl:k<l.length:=by omega
  have ec:=take_count (q:=atP p) (z:=(0,(0,()))) hkl
  have hmem:l.getD k (0,(0,()))∈l:=by
   rw [List.getD_eq_getElem?_getD,List.getElem?_eq_getElem hkl]
   exact List.getElem_mem hkl
  rw [L12_0_succ]
  try delta lenI
  by_cases q:(l.getD k (0,(0,()))).2.1=(p:Int)
  . have q':atP p (l.getD k (0,(0,())))=true:=eT q
    rw [q',if_pos rfl,<- hmc] at ec
    obtain ⟨n',at',h1,h2⟩:=law12_in t s p b l x ex pa hl d n (k+1) (m+1) (l.getD k (0,(0,()))).1 (by omega) (by omega) (by omega) ec.symm (fun _=>⟨_,hmem,q',rfl⟩)
    refine ⟨n',at',h1,?_⟩
    simp only [dT (show (k:Int)<l.length by omega),inbT (show (0:Int)<=k by omega) (show (k:Int)<l.length by omega),cond_true,Int.toNat_natCast,eT q,wn (show k<1000000000 by omega),wn (show m<1000000000 by omega)]
    exact h2
  . have q':atP p (l.getD k (0,(0,())))=false:=eF q
    rw [q',if_neg (by decide),Nat.add_zero,<- hmc] at ec
    obtain ⟨n',at',h1,h2⟩:=law12_in t s p b l x ex pa hl d n (k+1) m at_ (by omega) (by omega) (by omega) ec.symm ha
    refine ⟨n',at',h1,?_⟩
    simp only [dT (show (k:Int)<l.length by omega),inbT (show (0:Int)<=k by omega) (show (k:Int)<l.length by omega),cond_true,Int.toNat_natCast,eF q,wn (show k<1000000000 by omega)]
    exact h2
theorem law12_src {t:TREE} (ht:TreeOK t) {p c:Nat} (hc:c<t.2.1.length) {right:Int} (h1:seenAt t c p >= 0) (h2:seenAt t c p≠right) (ex:Int):L12_1 fuel fuel (srcT t p right,(ex,())) (pathV t c,(0,())) 0 = .ret true:=by
 have hfb:=fuel_big
 have hs:=ht.small
 have hsl:=src_short ht p right
 have key:=runL (L:=fun n i=>L12_1 fuel n (srcT t p right,(ex,())) (pathV t c,(0,())) i) (len:=(srcT t p right).length) (K:=.ret true) (fun n i hi=>?_) (fun n=>?_) (srcT t p right).length fuel 0 (by omega) (by omega)
 . exact key
 . try dsimp only
   rw [L12_1_succ]
   try delta lenI
   have hmem:(srcT t p right).getD i 0∈srcT t p right:=by
    rw [List.getD_eq_getElem?_getD,List.getElem?_eq_getElem hi]
    exact List.getElem_mem hi
   have hin:(srcT t p right).getD i 0∈pathV t c:=by
    generalize (srcT t p right).getD i 0=y at hmem
    unfold srcT srcQ at hmem
    rw [List.mem_filter,Bool.and_eq_true,srcB_iff] at hmem
    obtain ⟨_,_,hok⟩:=hmem
    cases hu:under t y c with
    | true=>exact of_decide_eq_true hu
    | false =>
     have:=fitsV_iff.1 (hok.off c hc hu)
     omega
   simp only [dT (show (i:Int)<(srcT t p right).length by omega),inbT (show (0:Int)<=i by omega) (show (i:Int)<(srcT t p right).length by omega),cond_true,Int.toNat_natCast,f23v_eq,f23_at (pathV t c) _ (path_small ht ⟨by omega,by omega⟩),dT hin,nt,wn (show i<1000000000 by omega)]
 . try dsimp only
   rw [L12_1_succ]
   try delta lenI
   simp only [dF (show ¬ (((srcT t p right).length:Nat):Int)<(srcT t p right).length by omega),known_true]
theorem law12_loop {t:TREE} (ht:TreeOK t) {s:List (List Int)} (hs:StoryOK t s) {p c:Nat} (hp:(p:Int)<t.1) (hc:c<t.2.1.length) (ex:Int):L12_0 fuel fuel (t,(s,((p:Int),((c:Int),())))) (errList t s,(0,())) (srcT t p (cellAt s 0 p),(ex,())) (pathV t c,(0,())) 0 0 0 = .ret true:=by
 have hfb:=fuel_big
 have hc8:=ht.copies
 have hl:(errList t s).length<1000000:=by
  have:=errs_len ht s
  have h1:=ht.places
  have h3:(t.2.1.length:Int) * t.1<=8 * 3:=Int.mul_le_mul (by omega) (by omega) (by omega) (by omega)
  omega
 obtain ⟨n',at',h1,h2⟩:=law12_in t s p c (errList t s) (srcT t p (cellAt s 0 p)) ex (pathV t c) hl (errList t s).length fuel 0 0 0 (by omega) (by omega) (Nat.le_refl _) rfl (fun h=>by cases h)
 have h2':L12_0 fuel fuel (t,(s,((p:Int),((c:Int),())))) (errList t s,(0,())) (srcT t p (cellAt s 0 p),(ex,())) (pathV t c,(0,())) 0 0 0=_:=h2
 rw [h2',L12_0_succ]
 try delta lenI
 have hnode:((t.2.1.getD c NODE0).2.1.length:Int)=t.1:=(ht.node c hc).len
 have es:seenAt t c p=(t.2.1.getD c NODE0).2.1.getD p 0:=seenAt_node t c p
 have z0:(0:Int).toNat=0:=rfl
 have ec:(s.getD 0 []).getD p 0=cellAt s 0 p:=rfl
 have hsl:=src_short ht p (cellAt s 0 p)
 have hsm:=ht.small
 have tail:(match decide ((t.2.1.getD c NODE0).2.1.getD p 0 >= 0) with
  | true=>match ((t.2.1.getD c NODE0).2.1.getD p 0 != cellAt s 0 p) with
   | true=>L12_1 fuel fuel (srcT t p (cellAt s 0 p),(ex,())) (pathV t c,(0,())) 0
   | false=>(Out.ret true:Out Bool)
  | false=>.ret true) = .ret true:=by
  rw [<- es]
  by_cases g1:seenAt t c p >= 0
  . by_cases g2:seenAt t c p=cellAt s 0 p
    . simp only [dT g1,nF g2]
    . simp only [dT g1,nT g2,law12_src ht hc g1 g2]
  . simp only [dF g1]
 by_cases h:(errList t s).countP (atP p)=1
 . obtain ⟨e,he,qe,rfl⟩:=h1 (by omega)
   obtain ⟨i,p2,hi,hp2,hie,ee⟩:=mem_errs.1 he
   have hpp:p2=p:=by
    rw [ee] at qe
    unfold atP at qe
    have h3:(p2:Int)=p:=by simpa using qe
    omega
   subst hpp
   have hin:=one_src ht hs hp hi hie fun i2 hi2 hie2=>by
    have:=count_one h he (mem_errs.2 ⟨i2,p2,hi2,hp2,hie2,rfl⟩) qe (by unfold atP;simp)
    rw [ee] at this
    injection this with this
    omega
   have hin2:e.1∈srcT t p2 (cellAt s 0 p2):=by rw [ee];exact hin
   simp only [dF (show ¬ (((errList t s).length:Nat):Int)<(errList t s).length by omega),eT (show (((errList t s).countP (atP p2):Nat):Int)=1 by omega),f23v_eq,f23_at (srcT t p2 (cellAt s 0 p2)) _ (show (srcT t p2 (cellAt s 0 p2)).length<1000000 by omega),dT hin2,nt,inbT (show (0:Int)<=c by omega) (show (c:Int)<t.2.1.length by omega),Int.toNat_natCast,inbT (show (0:Int)<=p2 by omega) (show (p2:Int)<(t.2.1.getD c NODE0).2.1.length by omega),cond_true,z0,ec,known_true]
   exact tail
 . simp only [dF (show ¬ (((errList t s).length:Nat):Int)<(errList t s).length by omega),eF (show (((errList t s).countP (atP p):Nat):Int)≠1 by omega),inbT (show (0:Int)<=c by omega) (show (c:Int)<t.2.1.length by omega),Int.toNat_natCast,inbT (show (0:Int)<=p by omega) (show (p:Int)<(t.2.1.getD c NODE0).2.1.length by omega),cond_true,z0,ec,known_true]
   exact tail
theorem law12 (t:TREE) (s:List (List Int)) (a b:Int):f12 (t,(s,(a,(b,())))) = .ret true:=by
 show F12 fuel (t,(s,(a,(b,()))))=_
 unfold F12
 simp only [f22v_eq,f31v_eq,f32v_eq,f18v_eq,f39v_eq,f45v_eq,f33v_eq,f15v_eq]
 rcases f22_at t with h22|⟨h22,ht⟩
 . simp only [h22,nf,known_true]
 obtain ⟨c,h31⟩:=f31_at s
 simp only [h22,nt,h31]
 cases c with
 | false=>simp only [nf,known_true]
 | true =>
  simp only [nt]
  rcases story_ret ht s with ⟨hs,h32,_⟩|⟨hs,h32,_⟩
  rotate_left
  . simp only [h32,nf,known_true]
  have hsm:=ht.small
  simp only [h32,nt,f39_at ht]
  rcases place_cases t a with ⟨ha,ea⟩|⟨ha,ea⟩
  rotate_left
  . simp only [ea,nf,known_true]
  simp only [ea,nt,f18_at (t:=t) _ hsm]
  rcases copy_cases t b with ⟨hb,eb⟩|⟨hb,eb⟩
  rotate_left
  . simp only [eb,nf,known_true]
  obtain ⟨p,rfl,hp⟩:=ha.nat
  obtain ⟨i,rfl,hi⟩:=hb.nat
  have hc8:=ht.copies
  have hsl:=hs.len
  have hrow:=(hs.row 0 (by omega)).len
  have z0:(0:Int).toNat=0:=rfl
  have ec:(s.getD 0 []).getD p 0=cellAt s 0 p:=rfl
  have h9:=(hs.cell (i:=0) (p:=p) (by omega) hp).1
  have hpl:=path_len ht (n:=(i:Int)) (by omega) (by omega)
  have hss:=src_short ht p (cellAt s 0 p)
  have l1:decide (lenI (pathV t i) > lenI t.2.1)=false:=dF (by delta lenI;omega)
  have l2:decide (lenI (srcT t p (cellAt s 0 p)) >= lenI t.2.1)=false:=dF (by delta lenI;omega)
  have l3:decide (lenI ([]:List Int) >= lenI t.2.1)=false:=dF (by delta lenI;simp only [List.length_nil];omega)
  simp only [eb,nt,inbT (Int.le_refl 0) (show (0:Int)<(s.length:Int) by omega),z0,inbT (show (0:Int)<=p by omega) (show (p:Int)<(s.getD 0 []).length by omega),cond_true,Int.toNat_natCast,ec,f33_at ht hs,f45_at ht hp h9,f15_at ht (n:=(i:Int)) (by omega) (by omega)]
  by_cases h:srcT t p (cellAt s 0 p)=[]
  . have lo:=law12_loop ht hs hp hi 5
    rw [h] at lo
    simp only [h,if_true,n00,n50,errs_lenw ht s,l1,l3,b50,lo]
    rfl
  . have lo:=law12_loop ht hs hp hi 0
    have hpos:0<(srcT t p (cellAt s 0 p)).length:=List.length_pos_iff.2 h
    have l4:decide (lenI (srcT t p (cellAt s 0 p)) > 0)=true:=dT (by delta lenI;omega)
    simp only [if_neg h,n00,errs_lenw ht s,l1,l2,b00,l4,bne_self_eq_false,lo]
end Go.V
end
