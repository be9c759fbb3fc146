/- What law 4 of the copies needs beyond what all laws need: functions read, and the plain law. -/
import Derived.Test.YtmkbnifehdhbbabGreatDoorQL
import Derived.Test.YtmkbnifehdhbbabGreatDoorCR2
import Derived.Test.YtmkbnifehdhbbabGreatDoorCRA
set_option linter.all false
noncomputable section
namespace Go.V
open Go.Proofs
def specs13:List Spec:=[]
def hints13:List (Nat×List Nat):=[(2,[1,3])]
def L13_0 (N:Nat) (n_L13_0:Nat) (x:lt1) (i_1:Int):Out Bool :=
 vloop Tryz.prog (phi specs13) hints13 N Tryz.f12 false false .bool [.at 1,.at 0,.at 1,.at 0] n_L13_0 [U,.box [.d (.int .i64) x.1.1,.d ty0 x.1.2.1],U,.d (.int .i64) i_1,U,U,U,U,U,U,U,U,U,U,U,U,U,U,U,U,U,U,U,U,U,U,U]
theorem L13_0_succ (N:Nat) (n_L13_0:Nat) (x:lt1) (i_1:Int):L13_0 N  (n_L13_0+1) x i_1 =
 (match (decide (i_1<(lenI x.1.2.1))) with|true=>(match (decide (i_1<10)) with|true=>bif (inb i_1 x.1.2.1.length) then match (decide ((lenI ((List.getD x.1.2.1 i_1.toNat (0,([],())))).2.1) > 5)) with|true=>.ret false|false=>L13_0 N n_L13_0 x (IntKind.i64.wrap (i_1+1)) else .fail|false=>.ret (decide ((lenI x.1.2.1)<=10)))|false=>.ret (decide ((lenI x.1.2.1)<=10)):Out Bool):=by kernel_rfl
def F13 (N:Nat) (x:lt1):Out Bool:=L13_0 N N x 0
theorem e13 (N:Nat) (x:lt1):vfn Tryz.prog (phi specs13) hints13 N Tryz.f12 false false ty2 .bool x=F13 N x:=by kernel_rfl
def f13 (x:lt1):Out Bool:=F13 fuel x
def sp13:Spec:=⟨12,.call,ty2,.bool,false,false,f13⟩
theorem c13:Contract Tryz.prog sp13:=contract_at (l:=specs13) (arg:=ty2) (res:=.bool) (multi:=false) (own:=false) (F:=f13) mixed all_nil Tryz.func12 rfl hints13 fun x _=>⟨fuel,e13 fuel x⟩
def specs23:List Spec:=[]
def hints23:List (Nat×List Nat):=[(2,[0,1,5])]
def L23_0 (N:Nat) (n_L23_0:Nat) (x:lt2) (i_1:Int):Out Bool :=
 vloop Tryz.prog (phi specs23) hints23 N Tryz.f63 false false .bool [.at 1,.at 0,.at 1,.at 0] n_L23_0 [.d (.list (.int .i64)) x.1,.d (.int .i64) x.2.1,U,U,U,.d (.int .i64) i_1,U,U,U,U,U,U,U,U,U,U,U,U]
theorem L23_0_succ (N:Nat) (n_L23_0:Nat) (x:lt2) (i_1:Int):L23_0 N  (n_L23_0+1) x i_1 =
 (match (decide (i_1<(lenI x.1))) with|true=>bif (inb i_1 x.1.length) then match ((List.getD x.1 i_1.toNat 0)==x.2.1) with|true=>.ret true|false=>L23_0 N n_L23_0 x (IntKind.i64.wrap (i_1+1)) else .fail|false=>.ret false:Out Bool):=by kernel_rfl
def F23 (N:Nat) (x:lt2):Out Bool:=L23_0 N N x 0
theorem e23 (N:Nat) (x:lt2):vfn Tryz.prog (phi specs23) hints23 N Tryz.f63 false false ty3 .bool x=F23 N x:=by kernel_rfl
def f23 (x:lt2):Out Bool:=F23 fuel x
def sp23:Spec:=⟨63,.call,ty3,.bool,false,false,f23⟩
theorem c23:Contract Tryz.prog sp23:=contract_at (l:=specs23) (arg:=ty3) (res:=.bool) (multi:=false) (own:=false) (F:=f23) mixed all_nil Tryz.func63 rfl hints23 fun x _=>⟨fuel,e23 fuel x⟩
def specs61:List Spec:=[]
def hints61:List (Nat×List Nat):=[]
theorem e61 (N:Nat) (x:(Int×(Int×(Int×Unit)))):vfn Tryz.prog (phi specs61) hints61 N Tryz.f60 false false ty10 .bool x=F61 N x:=by kernel_rfl
theorem c61:Contract Tryz.prog sp61:=contract_at (l:=specs61) (arg:=ty10) (res:=.bool) (multi:=false) (own:=false) (F:=f61) mixed all_nil Tryz.func60 rfl hints61 fun x _=>⟨fuel,e61 fuel x⟩
def specs69:List Spec:=[]
def hints69:List (Nat×List Nat):=[(2,[0,1,5])]
def L69_0 (N:Nat) (n_L69_0:Nat) (x:lt5) (i_1:Int):Out Bool :=
 vloop Tryz.prog (phi specs69) hints69 N Tryz.f22 false false .bool [.at 1,.at 0,.at 1,.at 0] n_L69_0 [.d (.list (.int .i64)) x.1,.d (.list (.int .i64)) x.2.1,U,U,U,.d (.int .i64) i_1,U,U,U,U,U,U,U,U,U,U,U,U,U,U,U,U,U,U,U,U,U,U,U,U,U,U,U,U,U,U,U,U,U,U,U]
theorem L69_0_succ (N:Nat) (n_L69_0:Nat) (x:lt5) (i_1:Int):L69_0 N  (n_L69_0+1) x i_1 =
 (match (decide (i_1<(lenI x.1))) with|true=>(match (decide (i_1<(lenI x.2.1))) with|true=>bif (inb i_1 x.1.length) then bif (inb i_1 x.2.1.length) then match ((List.getD x.1 i_1.toNat 0) != (List.getD x.2.1 i_1.toNat 0)) with|true=>bif (inb i_1 x.1.length) then bif (inb i_1 x.2.1.length) then .ret (decide ((List.getD x.1 i_1.toNat 0)<(List.getD x.2.1 i_1.toNat 0))) else .fail else .fail|false=>L69_0 N n_L69_0 x (IntKind.i64.wrap (i_1+1)) else .fail else .fail|false=>.ret (decide ((lenI x.1)<(lenI x.2.1))))|false=>.ret (decide ((lenI x.1)<(lenI x.2.1))):Out Bool):=by kernel_rfl
def F69 (N:Nat) (x:lt5):Out Bool:=L69_0 N N x 0
theorem e69 (N:Nat) (x:lt5):vfn Tryz.prog (phi specs69) hints69 N Tryz.f22 false false ty7 .bool x=F69 N x:=by kernel_rfl
def f69 (x:lt5):Out Bool:=F69 fuel x
def sp69:Spec:=⟨22,.call,ty7,.bool,false,false,f69⟩
theorem c69:Contract Tryz.prog sp69:=contract_at (l:=specs69) (arg:=ty7) (res:=.bool) (multi:=false) (own:=false) (F:=f69) mixed all_nil Tryz.func22 rfl hints69 fun x _=>⟨fuel,e69 fuel x⟩
def specs46:List Spec:=[sp61]
def hints46:List (Nat×List Nat):=[]
theorem e46 (N:Nat) (x:(Int×Unit)):vfn Tryz.prog (phi specs46) hints46 N Tryz.f31 false false (.prod (.int .i64) .unit) .bool x=F46 N x:=by kernel_rfl
theorem c46:Contract Tryz.prog sp46:=contract_at (l:=specs46) (arg:=(.prod (.int .i64) .unit)) (res:=.bool) (multi:=false) (own:=false) (F:=f46) mixed (all_cons c61 all_nil) Tryz.func31 rfl hints46 fun x _=>⟨fuel,e46 fuel x⟩
theorem e17 (N:Nat) (x:lt1):vfn Tryz.prog (phi specs17) hints17 N Tryz.f15 false false ty2 .bool x=F17 N x:=by kernel_rfl
def sp17:Spec:=⟨15,.call,ty2,.bool,false,false,f17⟩
theorem c17:Contract Tryz.prog sp17:=contract_at (l:=specs17) (arg:=ty2) (res:=.bool) (multi:=false) (own:=false) (F:=f17) mixed (all_cons c61 (all_cons c46 all_nil)) Tryz.func15 rfl hints17 fun x _=>⟨fuel,e17 fuel x⟩
def specs22:List Spec:=[sp13,sp17]
def hints22:List (Nat×List Nat):=[]
def F22 (N:Nat) (x:lt1):Out Bool:=match f13 (x.1,()) with | .ret r_1=>(match r_1 with|true=>(match f17 (x.1,()) with | .ret r=>.ret r | .pan p=>.pan p | .fail=>.fail)|false=>.ret false) | .pan p=>.pan p | .fail=>.fail
theorem e22 (N:Nat) (x:lt1):vfn Tryz.prog (phi specs22) hints22 N Tryz.f19 false false ty2 .bool x=F22 N x:=by kernel_rfl
def f22 (x:lt1):Out Bool:=F22 fuel x
def sp22:Spec:=⟨19,.call,ty2,.bool,false,false,f22⟩
theorem c22:Contract Tryz.prog sp22:=contract_at (l:=specs22) (arg:=ty2) (res:=.bool) (multi:=false) (own:=false) (F:=f22) mixed (all_cons c13 (all_cons c17 all_nil)) Tryz.func19 rfl hints22 fun x _=>⟨fuel,e22 fuel x⟩
end Go.V
namespace Go.V
open Go.Proofs
theorem f23_at (l:List Int) (x:Int) (h:l.length<1000000):f23 (l,(x,())) = .ret (decide (x∈l)):=by
 have hfb:=fuel_big;unfold f23 F23;have key:=findL (L:=fun n i=>L23_0 fuel n (l,(x,())) i) (len:=l.length) (K:=.ret false) (fun i=>l.getD i 0=x) (fun _=>.ret true) (fun n i hi=>?_) (fun n=>?_) l.length fuel 0 (by omega) (by omega)
 . rcases key with ⟨j,h1,h2,h3,h4,h5⟩|⟨h1,h2⟩
   . rw [show L23_0 fuel fuel (l,(x,())) 0=_ from h5,dT (show x∈l by rw [<- h3];exact getD_mem h2)]
   . rw [show L23_0 fuel fuel (l,(x,())) 0=_ from h2,dF fun hm=>?_];obtain ⟨i,hi,he⟩:=mem_getD hm;exact h1 i (Nat.zero_le _) hi he
 . try dsimp only
   rw [L23_0_succ]
   try delta lenI
   simp only [dT (show (i:Int)<l.length by omega),inbT (show (0:Int)<=i by omega) (show (i:Int)<l.length by omega),cond_true,Int.toNat_natCast,wn (show i<1000000000 by omega)]
   by_cases g:l.getD i 0=x
   . simp only [eT g];exact .inl ⟨g,trivial⟩
   . simp only [eF g];exact .inr ⟨g,trivial⟩
 . try dsimp only
   rw [L23_0_succ]
   try delta lenI
   simp only [dF (show ¬ ((l.length:Nat):Int)<l.length by omega)]
theorem f13_at (t:TREE):∃ b,f13 (t,()) = .ret b:=by
 have hfb:=fuel_big;unfold f13 F13;have done:∀ n i:Nat,¬ (i:Int)<t.2.1.length\/¬ i<10->∃ b,L13_0 fuel (n+1) (t,()) i = .ret b:=fun n i h=>by
  rw [L13_0_succ]
  try delta lenI
  by_cases h1:(i:Int)<t.2.1.length
  . have h2:¬ (i:Int)<10:=by rcases h with h|h<;>omega
    simp only [dT h1,dF h2];exact ⟨_,rfl⟩
  . simp only [dF h1];exact ⟨_,rfl⟩
 have loop:∀ (d n i:Nat),d<n->i+d=10->∃ b,L13_0 fuel n (t,()) i = .ret b:=by
  intro d
  induction d with
  | zero =>
   intro n i hn hi;obtain ⟨n,rfl⟩:=succ_of hn;exact done n i (.inr (by omega))
  | succ d ih =>
   intro n i hn hi;obtain ⟨n,rfl⟩:=succ_of hn
   by_cases h1:(i:Int)<t.2.1.length
   . rw [L13_0_succ]
     try delta lenI
     simp only [dT h1,dT (show (i:Int)<10 by omega),inbT (show (0:Int)<=i by omega) h1,cond_true,wn (show i<1000000000 by omega)];split
     . exact ⟨_,rfl⟩
     . exact ih n (i+1) (by omega) (by omega)
   . exact done n i (.inl h1)
 exact loop 10 fuel 0 (by omega) (by omega)
theorem path_sub {t:TREE} (ht:TreeOK t) {m:Int} (y:Int):∀ n:Int,0<=n->n<t.2.1.length->m∈pathV t n->y∈pathV t n->y<=m->y∈pathV t m:=by
 refine path_ind ht (P:=fun n=>m∈pathV t n->y∈pathV t n->y<=m->y∈pathV t m) ?_ ?_
 . rw [path0];intro h1 h2 h3;simp at h1 h2;subst h1 h2;rw [path0];simp
 . intro n h0 h1 ih h2 h3 h4;rw [path_up ht h0 h1] at h2 h3;have hu:=up_in ht h0 h1;rcases List.mem_cons.1 h2 with rfl|h2
   . rw [path_up ht h0 h1];exact h3
   . rcases List.mem_cons.1 h3 with rfl|h3
     . have:=path_mem ht hu.1 hu.2.2 h2;omega
     . exact ih h2 h3 h4
theorem path_trans {t:TREE} (ht:TreeOK t) {m x:Int} (h:x∈pathV t m):∀ n:Int,0<=n->n<t.2.1.length->m∈pathV t n->x∈pathV t n:=by
 refine path_ind ht (P:=fun n=>m∈pathV t n->x∈pathV t n) ?_ ?_
 . rw [path0];intro h1;simp at h1;subst h1;rw [path0] at h;exact h
 . intro n h0 h1 ih h2;rw [path_up ht h0 h1] at h2 ⊢;rcases List.mem_cons.1 h2 with rfl|h2
   . rw [path_up ht h0 h1] at h;exact h
   . exact List.mem_cons_of_mem _ (ih h2)
theorem shared_comm {t:TREE} (ht:TreeOK t) {a b:Int} (ha:IsCopy t a) (hb:IsCopy t b):sharedV t a b=sharedV t b a:=by
 obtain ⟨_,g2,g3,g4⟩:=shared_all ht hb ha;exact shared_uniq ht ha hb g3 g2 fun x h1 h2=>g4 x h2 h1
theorem shared_copy {t:TREE} (ht:TreeOK t) {a b:Int} (ha:IsCopy t a) (hb:IsCopy t b):IsCopy t (sharedV t a b):=by
 obtain ⟨_,g2,_,_⟩:=shared_all ht ha hb;have:=path_mem ht ha.l ha.h g2;exact ⟨this.1,by have:=ha.h;omega⟩
end Go.V
namespace Go.V
open Go.Proofs
theorem f22_at (t:TREE):f22 (t,()) = .ret false\/(f22 (t,()) = .ret true/\TreeOK t):=by
 obtain ⟨b,h⟩:=f13_at t;unfold f22 F22;cases b with
 | false=>simp only [h];exact .inl trivial
 | true =>
  simp only [h];rcases tree_ret (t:=t) with ⟨h1,h2,_⟩|⟨h1,h2,_⟩
  . simp only [h2];exact .inr ⟨trivial,h1⟩
  . simp only [h2];exact .inl trivial
end Go.V
namespace Go.V
open Go.Proofs
@[irreducible] def f22v:lt1->Out Bool:=veil f22
theorem f22v_eq:f22v=f22:=by unfold f22v;exact veil_eq f22
def sp22v:Spec:=⟨19,.call,ty2,.bool,false,false,f22v⟩
theorem c22v:Contract Tryz.prog sp22v:=by
 unfold sp22v
 rw [f22v_eq]
 exact c22
end Go.V
namespace Go.V
open Go.Proofs
theorem n00:((0:Int) != 0)=false:=rfl
theorem nt:(!true)=false:=rfl
theorem nf:(!false)=true:=rfl
theorem TreeOK.small {t:TREE} (h:TreeOK t):t.2.1.length<1000000:=by have:=h.copies;omega
end Go.V
namespace Go.V
open Go.Proofs
theorem f69_at (a b:List Int) (h:a.length<1000000) (hl:a.length=b.length):(∃ j,j<a.length/\a.getD j 0≠b.getD j 0/\(∀ k,k<j->a.getD k 0=b.getD k 0)/\f69 (a,(b,())) = .ret (decide (a.getD j 0<b.getD j 0)))\/(a=b/\f69 (a,(b,())) = .ret false):=by
 have hfb:=fuel_big;unfold f69 F69;have key:=findL (L:=fun n i=>L69_0 fuel n (a,(b,())) i) (len:=a.length) (K:=.ret false) (fun i=>¬ a.getD i 0=b.getD i 0) (fun j=>.ret (decide (a.getD j 0<b.getD j 0))) (fun n i hi=>?_) (fun n=>?_) a.length fuel 0 (by omega) (by omega)
 . rcases key with ⟨j,h1,h2,h3,h4,h5⟩|⟨h1,h2⟩
   . exact .inl ⟨j,h2,h3,fun k hk=>Classical.byContradiction (h4 k (Nat.zero_le _) hk),h5⟩
   . exact .inr ⟨ext_getD 0 hl (not_all h1),h2⟩
 . try dsimp only
   rw [L69_0_succ]
   try delta lenI
   simp only [dT (show (i:Int)<a.length by omega),dT (show (i:Int)<b.length by omega),inbT (show (0:Int)<=i by omega) (show (i:Int)<a.length by omega),inbT (show (0:Int)<=i by omega) (show (i:Int)<b.length by omega),cond_true,Int.toNat_natCast,wn (show i<1000000000 by omega)]
   by_cases g:a.getD i 0=b.getD i 0
   . simp only [nF g];exact .inr ⟨fun h=>h g,trivial⟩
   . simp only [nT g];exact .inl ⟨g,trivial⟩
 . try dsimp only
   rw [L69_0_succ]
   try delta lenI
   simp only [dF (show ¬ ((a.length:Nat):Int)<a.length by omega),dF (show ¬ (a.length:Int)<b.length by omega)]
end Go.V
namespace Go.V
open Go.Proofs
def specs16n:List Spec:=[sp61]
def hints16n:List (Nat×List Nat):=[(2,[1,2,5])]
def L16n_0 (N:Nat) (n_L16n_0:Nat) (x:lt15) (i_1:Int):Out Bool :=
 vloop Tryz.prog (phi specs16n) hints16n N Tryz.f16 false false .bool [.at 1,.at 0,.at 1,.at 0] n_L16n_0 [U,.d (.list (.int .i64)) x.2.1,.box [.d (.int .i64) x.1.1,.d ty0 x.1.2.1],U,U,.d (.int .i64) i_1,U,U,U,U,U,U,U,U,U,U,U,U,U,U,U,U,U,U,U,U,U,U,U,U,U,U,U,U,U,U,U,U]
theorem L16n_0_succ (N:Nat) (n_L16n_0:Nat) (x:lt15) (i_1:Int):L16n_0 N  (n_L16n_0+1) x i_1 =
 (match (decide (i_1<(lenI x.2.1))) with|true=>bif (inb i_1 x.2.1.length) then match f61 ((List.getD x.2.1 i_1.toNat 0),(1,((IntKind.i64.wrap ((lenI x.1.2.1) - 1)),()))) with | .ret r_2=>(match (!r_2) with|true=>.ret false|false=>match (decide (i_1 > 0)) with|true=>bif (inb i_1 x.2.1.length) then bif (inb (IntKind.i64.wrap (i_1 - 1)) x.2.1.length) then match (decide ((List.getD x.2.1 i_1.toNat 0)<=(List.getD x.2.1 (IntKind.i64.wrap (i_1 - 1)).toNat 0))) with|true=>.ret false|false=>L16n_0 N n_L16n_0 x (IntKind.i64.wrap (i_1+1)) else .fail else .fail|false=>L16n_0 N n_L16n_0 x (IntKind.i64.wrap (i_1+1))) | .pan p=>.pan p | .fail=>.fail else .fail|false=>.ret true:Out Bool):=by kernel_rfl
def F16n (N:Nat) (x:lt15):Out Bool:=L16n_0 N N x 0
theorem e16n (N:Nat) (x:lt15):vfn Tryz.prog (phi specs16n) hints16n N Tryz.f16 false false ty23 .bool x=F16n N x:=by kernel_rfl
def f16n (x:lt15):Out Bool:=F16n fuel x
def sp16n:Spec:=⟨16,.call,ty23,.bool,false,false,f16n⟩
theorem c16n:Contract Tryz.prog sp16n:=contract_at (l:=specs16n) (arg:=ty23) (res:=.bool) (multi:=false) (own:=false) (F:=f16n) mixed (all_cons c61 all_nil) Tryz.func16 rfl hints16n fun x _=>⟨fuel,e16n fuel x⟩
def specs20n:List Spec:=[sp23]
def hints20n:List (Nat×List Nat):=[(2,[0,1,5])]
def L20n_0 (N:Nat) (n_L20n_0:Nat) (x:lt5) (i_1:Int):Out Bool :=
 vloop Tryz.prog (phi specs20n) hints20n N Tryz.f20 false false .bool [.at 1,.at 0,.at 1,.at 0] n_L20n_0 [.d (.list (.int .i64)) x.1,.d (.list (.int .i64)) x.2.1,U,U,U,.d (.int .i64) i_1,U,U,U,U,U,U,U,U,U,U,U,U,U]
theorem L20n_0_succ (N:Nat) (n_L20n_0:Nat) (x:lt5) (i_1:Int):L20n_0 N  (n_L20n_0+1) x i_1 =
 (match (decide (i_1<(lenI x.1))) with|true=>bif (inb i_1 x.1.length) then match f23 (x.2.1,((List.getD x.1 i_1.toNat 0),())) with | .ret r_2=>(match (!r_2) with|true=>.ret false|false=>L20n_0 N n_L20n_0 x (IntKind.i64.wrap (i_1+1))) | .pan p=>.pan p | .fail=>.fail else .fail|false=>.ret true:Out Bool):=by kernel_rfl
def F20n (N:Nat) (x:lt5):Out Bool:=L20n_0 N N x 0
theorem e20n (N:Nat) (x:lt5):vfn Tryz.prog (phi specs20n) hints20n N Tryz.f20 false false ty7 .bool x=F20n N x:=by kernel_rfl
def f20n (x:lt5):Out Bool:=F20n fuel x
def sp20n:Spec:=⟨20,.call,ty7,.bool,false,false,f20n⟩
theorem c20n:Contract Tryz.prog sp20n:=contract_at (l:=specs20n) (arg:=ty7) (res:=.bool) (multi:=false) (own:=false) (F:=f20n) mixed (all_cons c23 all_nil) Tryz.func20 rfl hints20n fun x _=>⟨fuel,e20n fuel x⟩
end Go.V
namespace Go.V
open Go.Proofs
@[irreducible] def f16nv:lt15->Out Bool:=veil f16n
theorem f16nv_eq:f16nv=f16n:=by unfold f16nv;exact veil_eq f16n
def sp16nv:Spec:=⟨16,.call,ty23,.bool,false,false,f16nv⟩
theorem c16nv:Contract Tryz.prog sp16nv:=by
 unfold sp16nv
 rw [f16nv_eq]
 exact c16n
@[irreducible] def f20nv:lt5->Out Bool:=veil f20n
theorem f20nv_eq:f20nv=f20n:=by unfold f20nv;exact veil_eq f20n
def sp20nv:Spec:=⟨20,.call,ty7,.bool,false,false,f20nv⟩
theorem c20nv:Contract Tryz.prog sp20nv:=by
 unfold sp20nv
 rw [f20nv_eq]
 exact c20n
@[irreducible] def f69v:lt5->Out Bool:=veil f69
theorem f69v_eq:f69v=f69:=by unfold f69v;exact veil_eq f69
def sp69v:Spec:=⟨22,.call,ty7,.bool,false,false,f69v⟩
theorem c69v:Contract Tryz.prog sp69v:=by
 unfold sp69v
 rw [f69v_eq]
 exact c69
end Go.V
namespace Go.V
open Go.Proofs
theorem f16n_big {t:TREE} (ht:TreeOK t) (l:List Int) (hl:l.length<1000000):∃ b,f16n (t,(l,())) = .ret b/\(b=true<->HandsOK t l):=by
 have hfb:=fuel_big;have hcc:=ht.copies;unfold f16n F16n;have key:=findL (L:=fun n i=>L16n_0 fuel n (t,(l,())) i) (len:=l.length) (K:=.ret true) (fun i=>¬ HandAt t l i) (fun _=>.ret false) (fun n i hi=>?_) (fun n=>?_) l.length fuel 0 (by omega) (by omega)
 . rcases key with ⟨j,h1,h2,h3,h4,h5⟩|⟨h1,h2⟩
   . exact ⟨false,h5,⟨fun h=>(by cases h),fun h=>absurd (h j h2) h3⟩⟩
   . exact ⟨true,h2,⟨fun _=>not_all h1,fun _=>rfl⟩⟩
 . try dsimp only
   rw [L16n_0_succ]
   try delta lenI
   have ew:IntKind.i64.wrap ((t.2.1.length:Int) - 1)=(t.2.1.length:Int) - 1:=wr (by omega) (by omega);simp only [dT (show (i:Int)<l.length by omega),inbT (show (0:Int)<=i by omega) (show (i:Int)<l.length by omega),cond_true,Int.toNat_natCast,i61,ew,wn (show i<1000000000 by omega)]
   by_cases g1:1<=l.getD i 0/\l.getD i 0<=(t.2.1.length:Int) - 1
   rotate_left
   . simp only [dF g1,Bool.not_false];exact .inl ⟨fun h=>g1 ⟨h.lo,by have:=h.hi;omega⟩,trivial⟩
   simp only [dT g1,Bool.not_true]
   by_cases g3:0<i
   . have ei:IntKind.i64.wrap ((i:Int) - 1)=((i - 1:Nat):Int):=by rw [wr (by omega) (by omega)];omega
     simp only [dT (show (i:Int) > 0 by omega),ei,inbT (show (0:Int)<=((i - 1:Nat):Int) by omega) (show ((i - 1:Nat):Int)<l.length by omega),cond_true,Int.toNat_natCast]
     by_cases g4:l.getD i 0<=l.getD (i - 1) 0
     . simp only [dT g4];exact .inl ⟨fun h=>(by have:=h.up g3;omega),trivial⟩
     . simp only [dF g4];exact .inr ⟨fun h=>h ⟨g1.1,by omega,fun _=>by omega⟩,trivial⟩
   . simp only [dF (show ¬ (i:Int) > 0 by omega)];exact .inr ⟨fun h=>h ⟨g1.1,by omega,fun h2=>absurd h2 g3⟩,trivial⟩
 . try dsimp only
   rw [L16n_0_succ]
   try delta lenI
   simp only [dF (show ¬ ((l.length:Nat):Int)<l.length by omega)]
theorem f16n_yes {t:TREE} (ht:TreeOK t) {l:List Int} (h:HandsOK t l):f16n (t,(l,())) = .ret true:=by
 have hl:=hands_len h;have hs:=ht.small;obtain ⟨b,e1,e2⟩:=f16n_big ht l (by omega);rw [e1,e2.2 h]
theorem f16n_no {t:TREE} (ht:TreeOK t) {l:List Int} (hl:l.length<1000000) (h:¬ HandsOK t l):f16n (t,(l,())) = .ret false:=by
 obtain ⟨b,e1,e2⟩:=f16n_big ht l hl;cases b with
 | false=>exact e1
 | true=>exact absurd (e2.1 rfl) h
end Go.V
namespace Go.V
open Go.Proofs
structure Even (P:Int->Prop) (m:Int->Int->Bool):Prop where
 refl:∀ a,P a->m a a=true
 symm:∀ a b,P a->P b->m a b=true->m b a=true
 trans:∀ a b c,P a->P b->P c->m a b=true->m b c=true->m a c=true
def gStep (m:Int->Int->Bool) (out:List Int) (n:Int):List Int:=if out.any (m n) then out else out++[n]
def gAll (m:Int->Int->Bool) (out l:List Int):List Int:=l.foldl (gStep m) out
def Al (m:Int->Int->Bool) (s:List Int):Prop:=s.Pairwise fun a b=>m a b=false
theorem apart_is (t:TREE) (l:List Int):apartT t l=gAll (meets t) [] l:=rfl
theorem gAll_cons (m:Int->Int->Bool) (out l:List Int) (n:Int):gAll m out (n :: l)=gAll m (gStep m out n) l:=rfl
theorem gStep_sub (m:Int->Int->Bool) (out:List Int) (n:Int):List.Sublist (gStep m out n) (out++[n]):=by
 unfold gStep;split
 . exact List.sublist_append_left _ _
 . exact List.Sublist.refl _
theorem gAll_sub (m:Int->Int->Bool):∀ (l out:List Int),List.Sublist (gAll m out l) (out++l)
 | [],out=>by rw [List.append_nil];exact List.Sublist.refl _
 | n :: l,out=>by
  rw [gAll_cons];refine (gAll_sub m l _).trans ?_;rw [show out++n :: l=(out++[n])++l by simp];exact (gStep_sub m out n).append_right l
theorem gStep_has (m:Int->Int->Bool) (out:List Int) (n:Int) {x:Int} (h:x∈out):x∈gStep m out n:=by
 unfold gStep;split
 . exact h
 . exact List.mem_append_left _ h
theorem gAll_has (m:Int->Int->Bool):∀ (l out:List Int) {x:Int},x∈out->x∈gAll m out l
 | [],out,x,h=>h
 | n :: l,out,x,h=>gAll_has m l _ (gStep_has m out n h)
theorem gStep_al {P:Int->Prop} {m:Int->Int->Bool} (hm:Even P m) {out:List Int} {n:Int} (hP:∀ x∈out,P x) (hn:P n) (h:Al m out):Al m (gStep m out n):=by
 unfold gStep;split
 . exact h
 . rename_i g;refine List.pairwise_append.2 ⟨h,List.pairwise_singleton _ _,fun a ha b hb=>?_⟩;rw [List.mem_singleton.1 hb];cases e:m a n with
   | false=>rfl
   | true=>exact absurd (List.any_eq_true.2 ⟨a,ha,hm.symm a n (hP a ha) hn e⟩) g
theorem gStep_in (m:Int->Int->Bool) {out:List Int} {n x:Int} (h:x∈gStep m out n):x∈out\/x=n:=by
 have:=(gStep_sub m out n).subset h
 simpa using this
theorem gAll_al {P:Int->Prop} {m:Int->Int->Bool} (hm:Even P m):∀ (l out:List Int),(∀ x∈out,P x)->(∀ x∈l,P x)->Al m out->Al m (gAll m out l)
 | [],out,_,_,h=>h
 | n :: l,out,h1,h2,h=>by
  rw [gAll_cons];refine gAll_al hm l _ (fun x hx=>?_) (fun x hx=>h2 x (List.mem_cons_of_mem _ hx)) (gStep_al hm h1 (h2 n List.mem_cons_self) h);rcases gStep_in m hx with h3|rfl
  . exact h1 x h3
  . exact h2 x List.mem_cons_self
theorem gAll_rep {P:Int->Prop} {m:Int->Int->Bool} (hm:Even P m):∀ (l out:List Int),(∀ x∈out++l,P x)->(out++l).Pairwise (· < ·)->∀ x∈out++l,∃ y∈gAll m out l,m x y=true/\y<=x
 | [],out,h1,_,x,hx=>⟨x,(by rw [List.append_nil] at hx;exact hx),hm.refl x (h1 x hx),Int.le_refl _⟩
 | n :: l,out,h1,h2,x,hx=>by
  rw [gAll_cons];have hs:List.Sublist (gStep m out n++l) (out++n :: l):=by
   rw [show out++n :: l=(out++[n])++l by simp];exact (gStep_sub m out n).append_right l
  by_cases h3:x∈gStep m out n++l
  . exact gAll_rep hm l _ (fun z hz=>h1 z (hs.subset hz)) (h2.sublist hs) x h3
  . have h4:x ∉ out:=fun h=>h3 (List.mem_append_left _ (gStep_has m out n h))
    have h5:x ∉ l:=fun h=>h3 (List.mem_append_right _ h)
    have h6:x=n:=by
     rcases List.mem_append.1 hx with h|h
     . exact absurd h h4
     . rcases List.mem_cons.1 h with h|h
       . exact h
       . exact absurd h h5
    subst h6
    by_cases g:out.any (m x)=true
    . obtain ⟨y,hy,e⟩:=List.any_eq_true.1 g;have:=(List.pairwise_append.1 h2).2.2 y hy x List.mem_cons_self;exact ⟨y,gAll_has m l _ (gStep_has m out x hy),e,by omega⟩
    . exact absurd (List.mem_append_left _ (by unfold gStep;rw [if_neg g];simp)) h3
theorem rep_len {P:Int->Prop} {m:Int->Int->Bool} (hm:Even P m):∀ (s G:List Int),(∀ x∈s,P x)->(∀ x∈G,P x)->Al m s->(∀ x∈s,∃ y∈G,m x y=true)->s.length<=G.length
 | [],G,_,_,_,_=>Nat.zero_le _
 | x :: s,G,h1,h2,h3,h4=>by
  obtain ⟨y,hy,e⟩:=h4 x List.mem_cons_self;have h5:=List.pairwise_cons.1 h3;have ih:=rep_len hm s (G.erase y) (fun z hz=>h1 z (List.mem_cons_of_mem _ hz)) (fun z hz=>h2 z (List.mem_of_mem_erase hz)) h5.2 fun z hz=>by
   obtain ⟨w,hw,e2⟩:=h4 z (List.mem_cons_of_mem _ hz);refine ⟨w,(List.mem_erase_of_ne ?_).2 hw,e2⟩;rintro rfl;have:=h5.1 z hz;have pz:=h1 z (List.mem_cons_of_mem _ hz);rw [hm.trans x w z (h1 x List.mem_cons_self) (h2 w hy) pz e (hm.symm z w pz (h2 w hy) e2)] at this
   cases this
  have h6:=List.length_erase_of_mem hy;have:0<G.length:=List.length_pos_of_mem hy;simp only [List.length_cons];omega
theorem greedy_best {P:Int->Prop} {m:Int->Int->Bool} (hm:Even P m) {l s:List Int} (hl:∀ x∈l,P x) (hu:l.Pairwise (· < ·)) (hs:∀ x∈s,x∈l) (ha:Al m s):s.length<=(gAll m [] l).length :=
 rep_len hm s _ (fun x hx=>hl x (hs x hx)) (fun x hx=>hl x (by simpa using (gAll_sub m l []).subset hx)) ha fun x hx=>by
  obtain ⟨y,h1,h2,_⟩:=gAll_rep hm l [] (by simpa using hl) (by simpa using hu) x (by simpa using hs x hx);exact ⟨y,h1,h2⟩
theorem getD_pw {R:Int->Int->Prop} {l:List Int} (h:l.Pairwise R) {i j:Nat} (h1:i<j) (h2:j<l.length):R (l.getD i 0) (l.getD j 0):=by
 have:=List.pairwise_iff_getElem.1 h i j (by omega) h2 h1
 simpa [List.getD_eq_getElem?_getD,List.getElem?_eq_getElem h2,List.getElem?_eq_getElem (show i<l.length by omega)] using this
theorem pw_getD {R:Int->Int->Prop} {l:List Int} (h:∀ i j,i<j->j<l.length->R (l.getD i 0) (l.getD j 0)):l.Pairwise R :=
 List.pairwise_iff_getElem.2 fun i j h1 h2 h3=>by
  have:=h i j h3 h2
  simpa [List.getD_eq_getElem?_getD,List.getElem?_eq_getElem h2,List.getElem?_eq_getElem h1] using this
theorem greedy_first {P:Int->Prop} {m:Int->Int->Bool} (hm:Even P m) {l s:List Int} (hl:∀ x∈l,P x) (hu:l.Pairwise (· < ·)) (hs:∀ x∈s,x∈l) (ha:Al m s) {j:Nat} (hj:j<s.length) (he:s.length=(gAll m [] l).length)
 (hk:∀ k,k<j->s.getD k 0=(gAll m [] l).getD k 0):¬ s.getD j 0<(gAll m [] l).getD j 0:=by
 intro hlt;have hin:=hs _ (getD_mem (z:=(0:Int)) hj);obtain ⟨y,h1,h2,h3⟩:=gAll_rep hm l [] (by simpa using hl) (by simpa using hu) (s.getD j 0) (by simpa using hin);have hg:(gAll m [] l).Pairwise (· < ·):=(by simpa using hu:([]++l).Pairwise (· < ·)).sublist (gAll_sub m l [])
 obtain ⟨i,hi,ey⟩:=mem_getD h1;have hij:i<j:=by
  rcases Nat.lt_or_ge i j with h|h
  . exact h
  . rcases Nat.eq_or_lt_of_le h with h|h
    . subst h;omega
    . have:=getD_pw hg h hi;omega
 have h5:m (s.getD i 0) (s.getD j 0)=false:=getD_pw ha hij hj;rw [hk i hij,ey] at h5;have py:P y:=hl y (by simpa using (gAll_sub m l []).subset h1);rw [hm.symm _ _ (hl _ hin) py h2] at h5;cases h5
def OneHand (t:TREE) (x:Int):Prop:=1<=x/\IsCopy t x
theorem meets_even {t:TREE} (ht:TreeOK t):Even (OneHand t) (meets t) where
 refl a ha:=by
  have:=(shared_all ht ha.2 ha.2).2.2.2 a (path_self ht ha.2.l ha.2.h) (path_self ht ha.2.l ha.2.h);exact decide_eq_true (by have:=ha.1;omega)
 symm a b ha hb h:=by unfold meets at h ⊢;rwa [shared_comm ht hb.2 ha.2]
 trans a b c ha hb hc h1 h2:=by
  have h1:sharedV t a b > 0:=of_decide_eq_true h1;have h2:sharedV t b c > 0:=of_decide_eq_true h2;obtain ⟨_,x1,x2,_⟩:=shared_all ht ha.2 hb.2;obtain ⟨_,y1,y2,_⟩:=shared_all ht hb.2 hc.2;have hz:=(shared_all ht ha.2 hc.2).2.2.2
  refine decide_eq_true ?_
  by_cases h:sharedV t a b<=sharedV t b c
  . have h3:=path_sub ht (sharedV t a b) b hb.2.l hb.2.h y1 x2 h;have h4:=path_trans ht h3 c hc.2.l hc.2.h y2;have:=hz _ x1 h4;omega
  . have h3:=path_sub ht (sharedV t b c) b hb.2.l hb.2.h x2 y1 (by omega);have h4:=path_trans ht h3 a ha.2.l ha.2.h x1;have:=hz _ h4 y2;omega
theorem hands_hand {t:TREE} {l:List Int} (h:HandsOK t l):∀ x∈l,OneHand t x:=fun x hx=>hands_mem h hx
theorem hands_up {t:TREE} {l:List Int} (h:HandsOK t l):l.Pairwise (· < ·):=by
 have:∀ d i,i+d+1<l.length->l.getD i 0<l.getD (i+d+1) 0:=by
  intro d
  induction d with
  | zero=>intro i hi;exact (h (i+1) (by omega)).up (by omega)
  | succ d ih =>
   intro i hi;have h1:=ih i (by omega);have h2:=(h (i+(d+1)+1) (by omega)).up (by omega);rw [show i+(d+1)+1 - 1=i+d+1 by omega] at h2;omega
 refine pw_getD fun i j h1 h2=>?_
 have:=this (j - i - 1) i (by omega)
 rwa [show i+(j - i - 1)+1=j by omega] at this
theorem hands_of {t:TREE} {l:List Int} (h1:∀ x∈l,OneHand t x) (h2:l.Pairwise (· < ·)):HandsOK t l:=fun i hi =>
 ⟨(h1 _ (getD_mem hi)).1,(h1 _ (getD_mem hi)).2.h,fun h3=>getD_pw h2 (by omega) hi⟩
theorem apart_hands {t:TREE} {l:List Int} (h:HandsOK t l):HandsOK t (apartT t l):=by
 rw [apart_is];have hs:List.Sublist (gAll (meets t) [] l) l:=by simpa using gAll_sub (meets t) l []
 exact hands_of (fun x hx=>hands_hand h x (hs.subset hx)) ((hands_up h).sublist hs)
theorem apart_in {t:TREE} {l:List Int}:∀ x∈apartT t l,x∈l:=fun x hx=>by
 rw [apart_is] at hx;simpa using (gAll_sub (meets t) l []).subset hx
theorem apart_le {t:TREE} {l:List Int}:(apartT t l).length<=l.length:=by
 rw [apart_is];simpa using (gAll_sub (meets t) l []).length_le
theorem apart_al {t:TREE} (ht:TreeOK t) {l:List Int} (h:HandsOK t l):Al (meets t) (apartT t l) :=
 gAll_al (meets_even ht) l [] (fun x hx=>by cases hx) (hands_hand h) List.Pairwise.nil
theorem no_meet {t:TREE} (ht:TreeOK t) {a b:Int} (ha:OneHand t a) (hb:OneHand t b):meets t a b=false<->sharedV t a b=0:=by
 have:=(shared_copy ht ha.2 hb.2).l;unfold meets;rw [decide_eq_false_iff_not];omega
theorem pairsL {ρ:Type} {O:Nat->Nat->Out ρ} {I:Nat->Nat->Nat->Nat->Out ρ} {len:Nat} {K R:Out ρ} (P:Nat->Nat->Prop) (hlen:len<fuel)
 (stepO:∀ n i,i<len->O (n+1) i=I n fuel i 0) (doneO:∀ n,O (n+1) len=K)
 (stepI:∀ n n1 i k,i<len->k<i->(P i k/\I n (n1+1) i k=R)\/(¬ P i k/\I n (n1+1) i k=I n n1 i (k+1)))
 (doneI:∀ n n1 i,i<len->I n (n1+1) i i=O n (i+1)) :
 ((∃ i k,i<len/\k<i/\P i k)/\O fuel 0=R)\/((∀ i k,i<len->k<i->¬ P i k)/\O fuel 0=K):=by
 have key:=findL (L:=O) (len:=len) (K:=K) (fun i=>∃ k,k<i/\P i k) (fun _=>R) (fun n i hi=>?_) doneO len fuel 0 hlen (by omega)
 . rcases key with ⟨j,h1,h2,⟨k,h3,h4⟩,h5,h6⟩|⟨h1,h2⟩
   . exact .inl ⟨⟨j,k,h2,h3,h4⟩,h6⟩
   . exact .inr ⟨fun i k hi hk hp=>h1 i (Nat.zero_le _) hi ⟨k,hk,hp⟩,h2⟩
 . rw [stepO n i hi];rcases findL (L:=fun n1 k=>I n n1 i k) (len:=i) (K:=O n (i+1)) (fun k=>P i k) (fun _=>R) (fun n1 k hk=>stepI n n1 i k hi hk) (fun n1=>doneI n n1 i hi) i fuel 0 (by omega) (by omega) with ⟨k,h1,h2,h3,h4,h5⟩|⟨h1,h2⟩
   . exact .inl ⟨⟨k,h2,h3⟩,h5⟩
   . exact .inr ⟨fun ⟨k,hk,hp⟩=>h1 k (Nat.zero_le _) hk hp,h2⟩
theorem f20n_at {a:List Int} (b:List Int) (ha:a.length<1000000) (hb:b.length<1000000):f20n (a,(b,())) = .ret (decide (∀ x∈a,x∈b)):=by
 have hfb:=fuel_big;unfold f20n F20n;have key:=findL (L:=fun n i=>L20n_0 fuel n (a,(b,())) i) (len:=a.length) (K:=.ret true) (fun i=>a.getD i 0 ∉ b) (fun _=>.ret false) (fun n i hi=>?_) (fun n=>?_) a.length fuel 0 (by omega) (by omega)
 . rcases key with ⟨j,h1,h2,h3,h4,h5⟩|⟨h1,h2⟩
   . rw [show L20n_0 fuel fuel (a,(b,())) 0=_ from h5,decide_eq_false fun h=>h3 (h _ (getD_mem h2))]
   . rw [show L20n_0 fuel fuel (a,(b,())) 0=_ from h2,decide_eq_true fun x hx=>?_];obtain ⟨i,hi,rfl⟩:=mem_getD hx;exact Classical.byContradiction (h1 i (Nat.zero_le _) hi)
 . try dsimp only
   rw [L20n_0_succ]
   try delta lenI
   simp only [dT (show (i:Int)<a.length by omega),inbT (show (0:Int)<=i by omega) (show (i:Int)<a.length by omega),cond_true,Int.toNat_natCast,f23_at _ _ hb,wn (show i<1000000000 by omega)]
   by_cases g:a.getD i 0∈b
   . simp only [dT g,Bool.not_true];exact .inr ⟨fun h=>h g,trivial⟩
   . simp only [dF g,Bool.not_false];exact .inl ⟨g,trivial⟩
 . try dsimp only
   rw [L20n_0_succ]
   try delta lenI
   simp only [dF (show ¬ ((a.length:Nat):Int)<a.length by omega)]
end Go.V
namespace Go.V
open Go.Proofs
def specs4:List Spec:=[sp22v,sp14v,sp16nv,sp20nv,sp50v,sp16v,sp69v]
def hints4:List (Nat×List Nat):=[(7,[2,3,7,9]),(10,[2,3,7,9,10]),(16,[2,3,7,13]),(19,[2,3,7,13,14])]
def L4_1 (N:Nat) (n_L4_0:Nat) (n_L4_1:Nat) (x:((Int×((List (Int×((List Int)×Unit)))×Unit))×((List Int)×((List Int)×Unit)))) (r_21:lt2) (i_27:Int) (k_28:Int):Out Bool :=
 vloop Tryz.prog (phi specs4) hints4 N Tryz.f4 false false .bool [.at 1,.at 1,.at 1,.at 1,.at 0,.at 1,.at 0,.at n_L4_0,.at 1,.at 0,.at 0,.at 1,.at 0] n_L4_1 [U,U,.d (.list (.int .i64)) x.2.2.1,.box [.d (.int .i64) x.1.1,.d ty0 x.1.2.1],U,U,U,.d (.list (.int .i64)) r_21.1,U,.d (.int .i64) i_27,.d (.int .i64) k_28,U,U,U,U,U,U,U,U,U,U,U,U,U,U,U,U,U,U,U,U,U,U,U,U,U,U,U,U,U,U,U,U,U,U,U,U,U,U,U,U,U,U,U,U,U,U,U,U,U,U,U,U,U,U,U,U,U,U,U,U,U,U,U,U,U,U,U,U,U,U,U,U,U,U,U,U,U,U,U,U,U,U,U,U,U,U,U,U,U,U,U,U,U,U,U,U,U,U,U,U,U,U,U,U,U,U,U,U,U,U,U,U,U,U,U,U,U,U,U,U,U,U,U,U,U,U,U,U,U,U,U,U,U,U,U,U,U,U,U,U,U,U,U,U,U]
def L4_3 (N:Nat) (n_L4_2:Nat) (n_L4_3:Nat) (x:((Int×((List (Int×((List Int)×Unit)))×Unit))×((List Int)×((List Int)×Unit)))) (r_21:lt2) (i_31:Int) (k_32:Int):Out Bool :=
 vloop Tryz.prog (phi specs4) hints4 N Tryz.f4 false false .bool [.at 1,.at 1,.at 1,.at 1,.at 1,.at 0,.at 1,.at 0,.at n_L4_2,.at 1,.at 0,.at 0,.at 1,.at 0] n_L4_3 [U,U,.d (.list (.int .i64)) x.2.2.1,.box [.d (.int .i64) x.1.1,.d ty0 x.1.2.1],U,U,U,.d (.list (.int .i64)) r_21.1,U,U,U,U,U,.d (.int .i64) i_31,.d (.int .i64) k_32,U,U,U,U,U,U,U,U,U,U,U,U,U,U,U,U,U,U,U,U,U,U,U,U,U,U,U,U,U,U,U,U,U,U,U,U,U,U,U,U,U,U,U,U,U,U,U,U,U,U,U,U,U,U,U,U,U,U,U,U,U,U,U,U,U,U,U,U,U,U,U,U,U,U,U,U,U,U,U,U,U,U,U,U,U,U,U,U,U,U,U,U,U,U,U,U,U,U,U,U,U,U,U,U,U,U,U,U,U,U,U,U,U,U,U,U,U,U,U,U,U,U,U,U,U,U,U,U,U,U,U,U,U,U,U,U,U,U,U,U,U]
def L4_2 (N:Nat) (n_L4_2:Nat) (x:((Int×((List (Int×((List Int)×Unit)))×Unit))×((List Int)×((List Int)×Unit)))) (r_21:lt2) (i_31:Int):Out Bool :=
 vloop Tryz.prog (phi specs4) hints4 N Tryz.f4 false false .bool [.at 1,.at 1,.at 1,.at 1,.at 1,.at 0,.at 1,.at 0] n_L4_2 [U,U,.d (.list (.int .i64)) x.2.2.1,.box [.d (.int .i64) x.1.1,.d ty0 x.1.2.1],U,U,U,.d (.list (.int .i64)) r_21.1,U,U,U,U,U,.d (.int .i64) i_31,U,U,U,U,U,U,U,U,U,U,U,U,U,U,U,U,U,U,U,U,U,U,U,U,U,U,U,U,U,U,U,U,U,U,U,U,U,U,U,U,U,U,U,U,U,U,U,U,U,U,U,U,U,U,U,U,U,U,U,U,U,U,U,U,U,U,U,U,U,U,U,U,U,U,U,U,U,U,U,U,U,U,U,U,U,U,U,U,U,U,U,U,U,U,U,U,U,U,U,U,U,U,U,U,U,U,U,U,U,U,U,U,U,U,U,U,U,U,U,U,U,U,U,U,U,U,U,U,U,U,U,U,U,U,U,U,U,U,U,U,U,U]
def L4_0 (N:Nat) (n_L4_0:Nat) (x:((Int×((List (Int×((List Int)×Unit)))×Unit))×((List Int)×((List Int)×Unit)))) (r_21:lt2) (i_27:Int):Out Bool :=
 vloop Tryz.prog (phi specs4) hints4 N Tryz.f4 false false .bool [.at 1,.at 1,.at 1,.at 1,.at 0,.at 1,.at 0] n_L4_0 [U,U,.d (.list (.int .i64)) x.2.2.1,.box [.d (.int .i64) x.1.1,.d ty0 x.1.2.1],U,U,U,.d (.list (.int .i64)) r_21.1,U,.d (.int .i64) i_27,U,U,U,U,U,U,U,U,U,U,U,U,U,U,U,U,U,U,U,U,U,U,U,U,U,U,U,U,U,U,U,U,U,U,U,U,U,U,U,U,U,U,U,U,U,U,U,U,U,U,U,U,U,U,U,U,U,U,U,U,U,U,U,U,U,U,U,U,U,U,U,U,U,U,U,U,U,U,U,U,U,U,U,U,U,U,U,U,U,U,U,U,U,U,U,U,U,U,U,U,U,U,U,U,U,U,U,U,U,U,U,U,U,U,U,U,U,U,U,U,U,U,U,U,U,U,U,U,U,U,U,U,U,U,U,U,U,U,U,U,U,U,U,U,U,U]
theorem L4_1_succ (N:Nat) (n_L4_0:Nat) (n_L4_1:Nat) (x:((Int×((List (Int×((List Int)×Unit)))×Unit))×((List Int)×((List Int)×Unit)))) (r_21:lt2) (i_27:Int) (k_28:Int):L4_1 N n_L4_0 (n_L4_1+1) x r_21 i_27 k_28 =
 (match (decide (k_28<i_27)) with|true=>bif (inb i_27 r_21.1.length) then bif (inb k_28 r_21.1.length) then match f16v (x.1,((List.getD r_21.1 i_27.toNat 0),((List.getD r_21.1 k_28.toNat 0),()))) with | .ret r_29=>(match (r_29.2.1 != 0) with|true=>.ret false|false=>match (r_29.1 != 0) with|true=>.ret false|false=>L4_1 N n_L4_0 n_L4_1 x r_21 i_27 (IntKind.i64.wrap (k_28+1))) | .pan p=>.pan p | .fail=>.fail else .fail else .fail|false=>L4_0 N n_L4_0 x r_21 (IntKind.i64.wrap (i_27+1)):Out Bool):=by kernel_rfl
theorem L4_3_succ (N:Nat) (n_L4_2:Nat) (n_L4_3:Nat) (x:((Int×((List (Int×((List Int)×Unit)))×Unit))×((List Int)×((List Int)×Unit)))) (r_21:lt2) (i_31:Int) (k_32:Int):L4_3 N n_L4_2 (n_L4_3+1) x r_21 i_31 k_32 =
 (match (decide (k_32<i_31)) with|true=>bif (inb i_31 x.2.2.1.length) then bif (inb k_32 x.2.2.1.length) then match f16v (x.1,((List.getD x.2.2.1 i_31.toNat 0),((List.getD x.2.2.1 k_32.toNat 0),()))) with | .ret r_33=>(match (r_33.2.1 != 0) with|true=>.ret false|false=>match (r_33.1 != 0) with|true=>(match f14v () with | .ret r=>.ret r | .pan p=>.pan p | .fail=>.fail)|false=>L4_3 N n_L4_2 n_L4_3 x r_21 i_31 (IntKind.i64.wrap (k_32+1))) | .pan p=>.pan p | .fail=>.fail else .fail else .fail|false=>L4_2 N n_L4_2 x r_21 (IntKind.i64.wrap (i_31+1)):Out Bool):=by kernel_rfl
theorem L4_2_succ (N:Nat) (n_L4_2:Nat) (x:((Int×((List (Int×((List Int)×Unit)))×Unit))×((List Int)×((List Int)×Unit)))) (r_21:lt2) (i_31:Int):L4_2 N  (n_L4_2+1) x r_21 i_31 =
 (match (decide (i_31<(lenI x.2.2.1))) with|true=>L4_3 N n_L4_2 N x r_21 i_31 0|false=>match (decide ((lenI x.2.2.1)<(lenI r_21.1))) with|true=>(match f14v () with | .ret r=>.ret r | .pan p=>.pan p | .fail=>.fail)|false=>match ((lenI x.2.2.1)==(lenI r_21.1)) with|true=>(match f69v (x.2.2.1,(r_21.1,())) with | .ret r_39=>(match (!r_39) with|true=>(match f14v () with | .ret r=>.ret r | .pan p=>.pan p | .fail=>.fail)|false=>.ret false) | .pan p=>.pan p | .fail=>.fail)|false=>.ret false:Out Bool):=by kernel_rfl
theorem L4_0_succ (N:Nat) (n_L4_0:Nat) (x:((Int×((List (Int×((List Int)×Unit)))×Unit))×((List Int)×((List Int)×Unit)))) (r_21:lt2) (i_27:Int):L4_0 N  (n_L4_0+1) x r_21 i_27 =
 (match (decide (i_27<(lenI r_21.1))) with|true=>L4_1 N n_L4_0 N x r_21 i_27 0|false=>L4_2 N N x r_21 0:Out Bool):=by kernel_rfl
def F4 (N:Nat) (x:((Int×((List (Int×((List Int)×Unit)))×Unit))×((List Int)×((List Int)×Unit)))):Out Bool:=match f22v (x.1,()) with | .ret r_1=>(match (!r_1) with|true=>(match f14v () with | .ret r=>.ret r | .pan p=>.pan p | .fail=>.fail)|false=>match (decide ((lenI x.2.1) > 10)) with|true=>(match f14v () with | .ret r=>.ret r | .pan p=>.pan p | .fail=>.fail)|false=>match (decide ((lenI x.2.2.1) > 10)) with|true=>(match f14v () with | .ret r=>.ret r | .pan p=>.pan p | .fail=>.fail)|false=>match f16nv (x.1,(x.2.1,())) with | .ret r_9=>(match (!r_9) with|true=>(match f14v () with | .ret r=>.ret r | .pan p=>.pan p | .fail=>.fail)|false=>match f16nv (x.1,(x.2.2.1,())) with | .ret r_13=>(match (!r_13) with|true=>(match f14v () with | .ret r=>.ret r | .pan p=>.pan p | .fail=>.fail)|false=>match f20nv (x.2.2.1,(x.2.1,())) with | .ret r_17=>(match (!r_17) with|true=>(match f14v () with | .ret r=>.ret r | .pan p=>.pan p | .fail=>.fail)|false=>match f50v (x.1,(x.2.1,())) with | .ret r_21=>(match (r_21.2.1 != 0) with|true=>.ret false|false=>match (decide ((lenI r_21.1) > (lenI x.2.1))) with|true=>.ret false|false=>match f16nv (x.1,(r_21.1,())) with | .ret r_23=>(match (!r_23) with|true=>.ret false|false=>match f20nv (r_21.1,(x.2.1,())) with | .ret r_25=>(match (!r_25) with|true=>.ret false|false=>L4_0 N N x r_21 0) | .pan p=>.pan p | .fail=>.fail) | .pan p=>.pan p | .fail=>.fail) | .pan p=>.pan p | .fail=>.fail) | .pan p=>.pan p | .fail=>.fail) | .pan p=>.pan p | .fail=>.fail) | .pan p=>.pan p | .fail=>.fail) | .pan p=>.pan p | .fail=>.fail
theorem e4 (N:Nat) (x:((Int×((List (Int×((List Int)×Unit)))×Unit))×((List Int)×((List Int)×Unit)))):vfn Tryz.prog (phi specs4) hints4 N Tryz.f4 false false (.prod (.prod (.int .i64) (.prod (.list (.prod (.int .i64) (.prod (.list (.int .i64)) .unit))) .unit)) (.prod (.list (.int .i64)) (.prod (.list (.int .i64)) .unit))) .bool x=F4 N x:=by kernel_rfl
def f4 (x:((Int×((List (Int×((List Int)×Unit)))×Unit))×((List Int)×((List Int)×Unit)))):Out Bool:=F4 fuel x
def sp4:Spec:=⟨4,.call,(.prod (.prod (.int .i64) (.prod (.list (.prod (.int .i64) (.prod (.list (.int .i64)) .unit))) .unit)) (.prod (.list (.int .i64)) (.prod (.list (.int .i64)) .unit))),.bool,false,false,f4⟩
theorem c4:Contract Tryz.prog sp4:=contract_at (l:=specs4) (arg:=(.prod (.prod (.int .i64) (.prod (.list (.prod (.int .i64) (.prod (.list (.int .i64)) .unit))) .unit)) (.prod (.list (.int .i64)) (.prod (.list (.int .i64)) .unit)))) (res:=.bool) (multi:=false) (own:=false) (F:=f4) mixed (all_cons c22v (all_cons c14v (all_cons c16nv (all_cons c20nv (all_cons c50v (all_cons c16v (all_cons c69v all_nil))))))) Tryz.func4 rfl hints4 fun x _=>⟨fuel,e4 fuel x⟩
end Go.V
namespace Go.V
open Go.Proofs
theorem law4_tail {t:TREE} (ht:TreeOK t) {l part:List Int} (hh:HandsOK t l) (hp:HandsOK t part) (hs:∀ x∈part,x∈l):L4_2 fuel fuel (t,(l,(part,()))) (apartT t l,(0,())) 0 = .ret true:=by
 have hfb:=fuel_big;have hcc:=ht.copies;have hll:=hands_len hh;have hpl:=hands_len hp;have hg:∀ i,i<part.length->OneHand t (part.getD i 0):=fun i hi=>hands_hand hp _ (getD_mem hi)
 have key:=pairsL (O:=fun n i=>L4_2 fuel n (t,(l,(part,()))) (apartT t l,(0,())) i) (I:=fun n n1 i k=>L4_3 fuel n n1 (t,(l,(part,()))) (apartT t l,(0,())) i k) (len:=part.length) (K:=L4_2 fuel 1 (t,(l,(part,()))) (apartT t l,(0,())) part.length) (R:=.ret true)
  (fun i k=>sharedV t (part.getD i 0) (part.getD k 0)≠0) (by omega) (fun n i hi=>?_) (fun n=>?_) (fun n n1 i k hi hk=>?_) (fun n n1 i hi=>?_)
 . rcases key with ⟨_,e⟩|⟨h1,e⟩
   . exact e
   refine e.trans ?_;rw [show (1:Nat)=0+1 from rfl,L4_2_succ];have ha:Al (meets t) part:=pw_getD fun i j hij hj=>(no_meet ht (hg i (by omega)) (hg j hj)).2 (by rw [shared_comm ht (hg i (by omega)).2 (hg j hj).2];exact Classical.byContradiction (h1 j i hj hij))
   have hle:part.length<=(apartT t l).length:=greedy_best (meets_even ht) (hands_hand hh) (hands_up hh) hs ha;simp only [show (lenI part)=(part.length:Int) from rfl,show (lenI (apartT t l))=((apartT t l).length:Int) from rfl,dF (show ¬ ((part.length:Nat):Int)<part.length by omega)]
   by_cases e1:part.length<(apartT t l).length
   . simp only [dT (show ((part.length:Nat):Int)<(apartT t l).length by omega),known_true]
   have e2:part.length=(apartT t l).length:=by omega
   simp only [dF (show ¬ ((part.length:Nat):Int)<(apartT t l).length by omega),show (((part.length:Nat):Int)==((apartT t l).length:Int))=true from decide_eq_true (by omega),f69v_eq];rcases f69_at part (apartT t l) (by omega) e2 with ⟨j,h3,h4,h5,h6⟩|⟨h3,h4⟩
   . rw [h6,decide_eq_false (show ¬ part.getD j 0<(apartT t l).getD j 0 from greedy_first (meets_even ht) (hands_hand hh) (hands_up hh) hs ha h3 e2 h5)];simp only [nf,known_true]
   . rw [h4];simp only [nf,known_true]
 . rw [L4_2_succ];simp only [show (lenI part)=(part.length:Int) from rfl,dT (show (i:Int)<part.length by omega)];rfl
 . rw [L4_2_succ,show (1:Nat)=0+1 from rfl,L4_2_succ];simp only [show (lenI part)=(part.length:Int) from rfl,dF (show ¬ ((part.length:Nat):Int)<part.length by omega)]
 . try dsimp only
   rw [L4_3_succ];simp only [dT (show (k:Int)<i by omega),inbT (show (0:Int)<=i by omega) (show (i:Int)<part.length by omega),inbT (show (0:Int)<=k by omega) (show (k:Int)<part.length by omega),cond_true,Int.toNat_natCast,f16v_eq,f16_at ht (hg i hi).2 (hg k (by omega)).2,wn (show k<1000000000 by omega),n00]
   by_cases g:sharedV t (part.getD i 0) (part.getD k 0)=0
   . rw [g];simp only [n00];exact .inr ⟨fun h=>h rfl,trivial⟩
   . simp only [show (sharedV t (part.getD i 0) (part.getD k 0) != 0)=true from bne_iff_ne.2 g,known_true];exact .inl ⟨g,trivial⟩
 . try dsimp only
   rw [L4_3_succ];simp only [dF (show ¬ ((i:Nat):Int)<i by omega),wn (show i<1000000000 by omega)]
theorem law4_pairs {t:TREE} (ht:TreeOK t) {l part:List Int} (hh:HandsOK t l):L4_0 fuel fuel (t,(l,(part,()))) (apartT t l,(0,())) 0=L4_2 fuel fuel (t,(l,(part,()))) (apartT t l,(0,())) 0:=by
 have hfb:=fuel_big;have hcc:=ht.copies;have hll:=hands_len hh;have hal:=apart_le (t:=t) (l:=l);have hr:=apart_hands hh;have hg:∀ i,i<(apartT t l).length->OneHand t ((apartT t l).getD i 0):=fun i hi=>hands_hand hr _ (getD_mem hi)
 have hz:∀ i k,i<(apartT t l).length->k<i->sharedV t ((apartT t l).getD i 0) ((apartT t l).getD k 0)=0:=fun i k hi hk=>by
  rw [shared_comm ht (hg i hi).2 (hg k (by omega)).2];exact (no_meet ht (hg k (by omega)) (hg i hi)).1 (getD_pw (apart_al ht hh) hk hi)
 have key:=pairsL (O:=fun n i=>L4_0 fuel n (t,(l,(part,()))) (apartT t l,(0,())) i) (I:=fun n n1 i k=>L4_1 fuel n n1 (t,(l,(part,()))) (apartT t l,(0,())) i k) (len:=(apartT t l).length) (K:=L4_2 fuel fuel (t,(l,(part,()))) (apartT t l,(0,())) 0) (R:=.ret false)
  (fun i k=>False) (by omega) (fun n i hi=>?_) (fun n=>?_) (fun n n1 i k hi hk=>?_) (fun n n1 i hi=>?_)
 . rcases key with ⟨⟨_,_,_,_,h⟩,_⟩|⟨_,e⟩
   . exact h.elim
   . exact e
 . rw [L4_0_succ];simp only [show (lenI (apartT t l))=((apartT t l).length:Int) from rfl,dT (show (i:Int)<(apartT t l).length by omega)];rfl
 . rw [L4_0_succ];simp only [show (lenI (apartT t l))=((apartT t l).length:Int) from rfl,dF (show ¬ (((apartT t l).length:Nat):Int)<(apartT t l).length by omega)]
 . refine .inr ⟨id,?_⟩
   try dsimp only
   rw [L4_1_succ];simp only [dT (show (k:Int)<i by omega),inbT (show (0:Int)<=i by omega) (show (i:Int)<(apartT t l).length by omega),inbT (show (0:Int)<=k by omega) (show (k:Int)<(apartT t l).length by omega),cond_true,Int.toNat_natCast,f16v_eq,f16_at ht (hg i hi).2 (hg k (by omega)).2,wn (show k<1000000000 by omega),n00,hz i k hi hk]
 . try dsimp only
   rw [L4_1_succ];simp only [dF (show ¬ ((i:Nat):Int)<i by omega),wn (show i<1000000000 by omega)]
theorem law4 (t:TREE) (l part:List Int):f4 (t,(l,(part,()))) = .ret true:=by
 show F4 fuel (t,(l,(part,())))=_;unfold F4;simp only [f22v_eq,f16nv_eq,f20nv_eq,f50v_eq];rcases f22_at t with h22|⟨h22,ht⟩
 . simp only [h22,nf,known_true]
 simp only [h22,nt]
 by_cases hl:lenI l > 10
 . simp only [dT hl,known_true]
 simp only [dF hl]
 by_cases hq:lenI part > 10
 . simp only [dT hq,known_true]
 have hll:l.length<1000000:=by have h2:¬ ((l.length:Int) > 10):=hl;omega
 have hpl:part.length<1000000:=by have h2:¬ ((part.length:Int) > 10):=hq;omega
 simp only [dF hq]
 by_cases hh:HandsOK t l
 rotate_left
 . simp only [f16n_no ht hll hh,nf,known_true]
 simp only [f16n_yes ht hh,nt]
 by_cases hp:HandsOK t part
 rotate_left
 . simp only [f16n_no ht hpl hp,nf,known_true]
 simp only [f16n_yes ht hp,nt,f20n_at l hpl hll]
 by_cases hs:∀ x∈part,x∈l
 rotate_left
 . simp only [dF hs,nf,known_true]
 have hal:=apart_le (t:=t) (l:=l);simp only [dT hs,nt,f50_at ht hh,n00,dF (show ¬ lenI (apartT t l) > lenI l from fun h=>by have h2:((apartT t l).length:Int) > l.length:=h;omega),f16n_yes ht (apart_hands hh),f20n_at l (show (apartT t l).length<1000000 by omega) hll,dT (show ∀ x∈apartT t l,x∈l from apart_in)]
 exact (law4_pairs ht hh).trans (law4_tail ht hh hp hs)
end Go.V
end
