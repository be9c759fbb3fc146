/- What law 4 of the copies needs beyond what all laws need: functions read, and the plain law. -/
import Derived.Test.YtmkbnifehdhbbaaGreatDoorQL
import Derived.Test.YtmkbnifehdhbbaaGreatDoorCR2
import Derived.Test.YtmkbnifehdhbbaaGreatDoorCRA
set_option linter.all false
noncomputable section
namespace Go.V
open Go.Proofs
def specs13:List Spec:=[]
def hints13:List (Nat×List Nat):=[(2,[1,3])]
def L13_0 (N:Nat) (n_L13_0:Nat) (x:lt1) (i_1:Int):Out Bool :=
 vloop Tryz.prog (phi specs13) hints13 N Tryz.f13 false false .bool [.at 1,.at 0,.at 1,.at 0] n_L13_0 [U,.box [.d (.int .i64) x.1.1,.d ty0 x.1.2.1],U,.d (.int .i64) i_1,U,U,U,U,U,U,U,U,U,U,U,U,U,U,U,U,U,U,U,U,U,U,U]
theorem L13_0_succ (N:Nat) (n_L13_0:Nat) (x:lt1) (i_1:Int):L13_0 N  (n_L13_0+1) x i_1 =
 (match (decide (i_1<(lenI x.1.2.1))) with|true=>(match (decide (i_1<10)) with|true=>bif (inb i_1 x.1.2.1.length) then match (decide ((lenI ((List.getD x.1.2.1 i_1.toNat (0,([],())))).2.1) > 5)) with|true=>.ret false|false=>L13_0 N n_L13_0 x (IntKind.i64.wrap (i_1+1)) else .fail|false=>.ret (decide ((lenI x.1.2.1)<=10)))|false=>.ret (decide ((lenI x.1.2.1)<=10)):Out Bool):=by kernel_rfl
def F13 (N:Nat) (x:lt1):Out Bool:=L13_0 N N x 0
theorem e13 (N:Nat) (x:lt1):vfn Tryz.prog (phi specs13) hints13 N Tryz.f13 false false ty2 .bool x=F13 N x:=by kernel_rfl
def f13 (x:lt1):Out Bool:=F13 fuel x
def sp13:Spec:=⟨13,.call,ty2,.bool,false,false,f13⟩
theorem c13:Contract Tryz.prog sp13:=contract_at (l:=specs13) (arg:=ty2) (res:=.bool) (multi:=false) (own:=false) (F:=f13) mixed all_nil Tryz.func13 rfl hints13 fun x _=>⟨fuel,e13 fuel x⟩
def specs23:List Spec:=[]
def hints23:List (Nat×List Nat):=[(2,[0,1,5])]
def L23_0 (N:Nat) (n_L23_0:Nat) (x:lt2) (i_1:Int):Out Bool :=
 vloop Tryz.prog (phi specs23) hints23 N Tryz.f23 false false .bool [.at 1,.at 0,.at 1,.at 0] n_L23_0 [.d (.list (.int .i64)) x.1,.d (.int .i64) x.2.1,U,U,U,.d (.int .i64) i_1,U,U,U,U,U,U,U,U,U,U,U,U]
theorem L23_0_succ (N:Nat) (n_L23_0:Nat) (x:lt2) (i_1:Int):L23_0 N  (n_L23_0+1) x i_1 =
 (match (decide (i_1<(lenI x.1))) with|true=>bif (inb i_1 x.1.length) then match ((List.getD x.1 i_1.toNat 0)==x.2.1) with|true=>.ret true|false=>L23_0 N n_L23_0 x (IntKind.i64.wrap (i_1+1)) else .fail|false=>.ret false:Out Bool):=by kernel_rfl
def F23 (N:Nat) (x:lt2):Out Bool:=L23_0 N N x 0
theorem e23 (N:Nat) (x:lt2):vfn Tryz.prog (phi specs23) hints23 N Tryz.f23 false false ty3 .bool x=F23 N x:=by kernel_rfl
def f23 (x:lt2):Out Bool:=F23 fuel x
def sp23:Spec:=⟨23,.call,ty3,.bool,false,false,f23⟩
theorem c23:Contract Tryz.prog sp23:=contract_at (l:=specs23) (arg:=ty3) (res:=.bool) (multi:=false) (own:=false) (F:=f23) mixed all_nil Tryz.func23 rfl hints23 fun x _=>⟨fuel,e23 fuel x⟩
def specs61:List Spec:=[]
def hints61:List (Nat×List Nat):=[]
theorem e61 (N:Nat) (x:(Int×(Int×(Int×Unit)))):vfn Tryz.prog (phi specs61) hints61 N Tryz.f61 false false ty10 .bool x=F61 N x:=by kernel_rfl
theorem c61:Contract Tryz.prog sp61:=contract_at (l:=specs61) (arg:=ty10) (res:=.bool) (multi:=false) (own:=false) (F:=f61) mixed all_nil Tryz.func61 rfl hints61 fun x _=>⟨fuel,e61 fuel x⟩
def specs18:List Spec:=[sp61]
def hints18:List (Nat×List Nat):=[]
def F18 (N:Nat) (x:lt4):Out Bool:=match f61 (x.2.1,(0,((IntKind.i64.wrap ((lenI x.1.2.1) - 1)),()))) with | .ret r=>.ret r | .pan p=>.pan p | .fail=>.fail
theorem e18 (N:Nat) (x:lt4):vfn Tryz.prog (phi specs18) hints18 N Tryz.f18 false false ty6 .bool x=F18 N x:=by kernel_rfl
def f18 (x:lt4):Out Bool:=F18 fuel x
def sp18:Spec:=⟨18,.call,ty6,.bool,false,false,f18⟩
theorem c18:Contract Tryz.prog sp18:=contract_at (l:=specs18) (arg:=ty6) (res:=.bool) (multi:=false) (own:=false) (F:=f18) mixed (all_cons c61 all_nil) Tryz.func18 rfl hints18 fun x _=>⟨fuel,e18 fuel x⟩
def specs46:List Spec:=[sp61]
def hints46:List (Nat×List Nat):=[]
theorem e46 (N:Nat) (x:(Int×Unit)):vfn Tryz.prog (phi specs46) hints46 N Tryz.f46 false false (.prod (.int .i64) .unit) .bool x=F46 N x:=by kernel_rfl
theorem c46:Contract Tryz.prog sp46:=contract_at (l:=specs46) (arg:=(.prod (.int .i64) .unit)) (res:=.bool) (multi:=false) (own:=false) (F:=f46) mixed (all_cons c61 all_nil) Tryz.func46 rfl hints46 fun x _=>⟨fuel,e46 fuel x⟩
theorem e17 (N:Nat) (x:lt1):vfn Tryz.prog (phi specs17) hints17 N Tryz.f17 false false ty2 .bool x=F17 N x:=by kernel_rfl
def sp17:Spec:=⟨17,.call,ty2,.bool,false,false,f17⟩
theorem c17:Contract Tryz.prog sp17:=contract_at (l:=specs17) (arg:=ty2) (res:=.bool) (multi:=false) (own:=false) (F:=f17) mixed (all_cons c61 (all_cons c46 all_nil)) Tryz.func17 rfl hints17 fun x _=>⟨fuel,e17 fuel x⟩
def specs22:List Spec:=[sp13,sp17]
def hints22:List (Nat×List Nat):=[]
def F22 (N:Nat) (x:lt1):Out Bool:=match f13 (x.1,()) with | .ret r_1=>(match r_1 with|true=>(match f17 (x.1,()) with | .ret r=>.ret r | .pan p=>.pan p | .fail=>.fail)|false=>.ret false) | .pan p=>.pan p | .fail=>.fail
theorem e22 (N:Nat) (x:lt1):vfn Tryz.prog (phi specs22) hints22 N Tryz.f22 false false ty2 .bool x=F22 N x:=by kernel_rfl
def f22 (x:lt1):Out Bool:=F22 fuel x
def sp22:Spec:=⟨22,.call,ty2,.bool,false,false,f22⟩
theorem c22:Contract Tryz.prog sp22:=contract_at (l:=specs22) (arg:=ty2) (res:=.bool) (multi:=false) (own:=false) (F:=f22) mixed (all_cons c13 (all_cons c17 all_nil)) Tryz.func22 rfl hints22 fun x _=>⟨fuel,e22 fuel x⟩
end Go.V
namespace Go.V
open Go.Proofs
theorem f23_at (l:List Int) (x:Int) (h:l.length<1000000):f23 (l,(x,())) = .ret (decide (x∈l)):=by
 have hfb:=fuel_big
 unfold f23 F23
 have key:=findL (L:=fun n i=>L23_0 fuel n (l,(x,())) i) (len:=l.length) (K:=.ret false) (fun i=>l.getD i 0=x) (fun _=>.ret true) (fun n i hi=>?_) (fun n=>?_) l.length fuel 0 (by omega) (by omega)
 . rcases key with ⟨j,h1,h2,h3,h4,h5⟩|⟨h1,h2⟩
   . rw [show L23_0 fuel fuel (l,(x,())) 0=_ from h5,dT (show x∈l by rw [<- h3];exact getD_mem h2)]
   . rw [show L23_0 fuel fuel (l,(x,())) 0=_ from h2,dF fun hm=>?_]
     obtain ⟨i,hi,he⟩:=mem_getD hm
     exact h1 i (Nat.zero_le _) hi he
 . try dsimp only
   rw [L23_0_succ]
   try delta lenI
   simp only [dT (show (i:Int)<l.length by omega),inbT (show (0:Int)<=i by omega) (show (i:Int)<l.length by omega),cond_true,Int.toNat_natCast,wn (show i<1000000000 by omega)]
   by_cases g:l.getD i 0=x
   . simp only [eT g];exact .inl ⟨g,trivial⟩
   . simp only [eF g];exact .inr ⟨g,trivial⟩
 . try dsimp only
   rw [L23_0_succ]
   try delta lenI
   simp only [dF (show ¬ ((l.length:Nat):Int)<l.length by omega)]
theorem f13_at (t:TREE):∃ b,f13 (t,()) = .ret b:=by
 have hfb:=fuel_big
 unfold f13 F13
 have done:∀ n i:Nat,¬ (i:Int)<t.2.1.length\/¬ i<10->∃ b,L13_0 fuel (n+1) (t,()) i = .ret b:=fun n i h=>by
  rw [L13_0_succ]
  try delta lenI
  by_cases h1:(i:Int)<t.2.1.length
  . have h2:¬ (i:Int)<10:=by rcases h with h|h<;>omega
    simp only [dT h1,dF h2]
    exact ⟨_,rfl⟩
  . simp only [dF h1]
    exact ⟨_,rfl⟩
 have loop:∀ (d n i:Nat),d<n->i+d=10->∃ b,L13_0 fuel n (t,()) i = .ret b:=by
  intro d
  induction d with
  | zero =>
   intro n i hn hi
   obtain ⟨n,rfl⟩:=succ_of hn
   exact done n i (.inr (by omega))
  | succ d ih =>
   intro n i hn hi
   obtain ⟨n,rfl⟩:=succ_of hn
   by_cases h1:(i:Int)<t.2.1.length
   . rw [L13_0_succ]
     try delta lenI
     simp only [dT h1,dT (show (i:Int)<10 by omega),inbT (show (0:Int)<=i by omega) h1,cond_true,wn (show i<1000000000 by omega)]
     split
     . exact ⟨_,rfl⟩
     . exact ih n (i+1) (by omega) (by omega)
   . exact done n i (.inl h1)
 exact loop 10 fuel 0 (by omega) (by omega)
theorem f18_at {t:TREE} (n:Int) (h:t.2.1.length<1000000):f18 (t,(n,())) = .ret (decide (0<=n/\n<t.2.1.length)):=by
 unfold f18 F18
 try delta lenI
 simp only [i61]
 rw [wr (by omega) (by omega)]
 by_cases h1:0<=n/\n<t.2.1.length
 . rw [dT h1,dT (by omega)]
 . rw [dF h1,dF (by omega)]
theorem path_sub {t:TREE} (ht:TreeOK t) {m:Int} (y:Int):∀ n:Int,0<=n->n<t.2.1.length->m∈pathV t n->y∈pathV t n->y<=m->y∈pathV t m:=by
 refine path_ind ht (P:=fun n=>m∈pathV t n->y∈pathV t n->y<=m->y∈pathV t m) ?_ ?_
 . rw [path0]
   intro h1 h2 h3
   simp at h1 h2
   subst h1 h2
   rw [path0];simp
 . intro n h0 h1 ih h2 h3 h4
   rw [path_up ht h0 h1] at h2 h3
   have hu:=up_in ht h0 h1
   rcases List.mem_cons.1 h2 with rfl|h2
   . rw [path_up ht h0 h1];exact h3
   . rcases List.mem_cons.1 h3 with rfl|h3
     . have:=path_mem ht hu.1 hu.2.2 h2;omega
     . exact ih h2 h3 h4
theorem shared_comm {t:TREE} (ht:TreeOK t) {a b:Int} (ha:IsCopy t a) (hb:IsCopy t b):sharedV t a b=sharedV t b a:=by
 obtain ⟨_,g2,g3,g4⟩:=shared_all ht hb ha
 exact shared_uniq ht ha hb g3 g2 fun x h1 h2=>g4 x h2 h1
theorem shared_copy {t:TREE} (ht:TreeOK t) {a b:Int} (ha:IsCopy t a) (hb:IsCopy t b):IsCopy t (sharedV t a b):=by
 obtain ⟨_,g2,_,_⟩:=shared_all ht ha hb
 have:=path_mem ht ha.l ha.h g2
 exact ⟨this.1,by have:=ha.h;omega⟩
end Go.V
namespace Go.V
open Go.Proofs
theorem f22_at (t:TREE):f22 (t,()) = .ret false\/(f22 (t,()) = .ret true/\TreeOK t):=by
 obtain ⟨b,h⟩:=f13_at t
 unfold f22 F22
 cases b with
 | false=>simp only [h];exact .inl trivial
 | true =>
  simp only [h]
  rcases tree_ret (t:=t) with ⟨h1,h2,_⟩|⟨h1,h2,_⟩
  . simp only [h2];exact .inr ⟨trivial,h1⟩
  . simp only [h2];exact .inl trivial
end Go.V
namespace Go.V
open Go.Proofs
theorem runL1 {ρ:Type} {L:Nat->Nat->Out ρ} {len lo:Nat} {K:Out ρ} (step:∀ n i:Nat,lo<=i->i<len->L (n+1) i=L n (i+1)) (done:∀ n,L (n+1) len=K):∀ (m n i:Nat),lo<=i->m<n->i+m=len->L n i=K
 | 0,n,i,h0,h1,h2=>by
  obtain ⟨n,rfl⟩:=succ_of h1
  rw [show i=len by omega,done]
 | m+1,n,i,h0,h1,h2=>by
  obtain ⟨n,rfl⟩:=succ_of (show 0<n by omega)
  rw [step n i h0 (by omega),runL1 step done m n (i+1) (by omega) (by omega) (by omega)]
end Go.V
namespace Go.V
open Go.Proofs
@[irreducible] def f18v:lt4->Out Bool:=veil f18
theorem f18v_eq:f18v=f18:=by unfold f18v;exact veil_eq f18
def sp18v:Spec:=⟨18,.call,ty6,.bool,false,false,f18v⟩
theorem c18v:Contract Tryz.prog sp18v:=by
 unfold sp18v
 rw [f18v_eq]
 exact c18
@[irreducible] def f22v:lt1->Out Bool:=veil f22
theorem f22v_eq:f22v=f22:=by unfold f22v;exact veil_eq f22
def sp22v:Spec:=⟨22,.call,ty2,.bool,false,false,f22v⟩
theorem c22v:Contract Tryz.prog sp22v:=by
 unfold sp22v
 rw [f22v_eq]
 exact c22
@[irreducible] def f23v:lt2->Out Bool:=veil f23
theorem f23v_eq:f23v=f23:=by unfold f23v;exact veil_eq f23
def sp23v:Spec:=⟨23,.call,ty3,.bool,false,false,f23v⟩
theorem c23v:Contract Tryz.prog sp23v:=by
 unfold sp23v
 rw [f23v_eq]
 exact c23
end Go.V
namespace Go.V
open Go.Proofs
theorem n00:((0:Int) != 0)=false:=rfl
theorem nt:(!true)=false:=rfl
theorem nf:(!false)=true:=rfl
theorem isT {p:Prop} [Decidable p] (h:p):decide p=true:=decide_eq_true h
theorem copy_cases (t:TREE) (n:Int):(IsCopy t n/\decide (0<=n/\n<(t.2.1.length:Int))=true)\/(¬ IsCopy t n/\decide (0<=n/\n<(t.2.1.length:Int))=false):=by
 by_cases h:0<=n/\n<(t.2.1.length:Int)
 . exact .inl ⟨⟨h.1,h.2⟩,dT h⟩
 . exact .inr ⟨fun h2=>h ⟨h2.l,h2.h⟩,dF h⟩
theorem TreeOK.small {t:TREE} (h:TreeOK t):t.2.1.length<1000000:=by have:=h.copies;omega
theorem path_small {t:TREE} (ht:TreeOK t) {n:Int} (h:IsCopy t n):(pathV t n).length<1000000:=by have:=path_len ht h.l h.h;have:=ht.copies;omega
end Go.V
namespace Go.V
open Go.Proofs
def specs4:List Spec:=[sp22v,sp14v,sp18v,sp15v,sp16v,sp23v]
def hints4:List (Nat×List Nat):=[(13,[3,4,9,11,13,17,19])]
def L4_0 (N:Nat) (n_L4_0:Nat) (x:lt30) (r_17:lt2) (r_19:lt2) (r_21:(Int×(Int×Unit))) (r_31:lt2) (k_33:Int):Out Bool :=
 vloop Tryz.prog (phi specs4) hints4 N Tryz.f4 false false .bool [.at 1,.at 1,.at 1,.at 1,.at 1,.at 1,.at 1,.at 1,.at 1,.at 0,.at 1,.at 0] n_L4_0 [U,U,U,.d (.int .i64) x.2.2.2.1,.box [.d (.int .i64) x.1.1,.d ty0 x.1.2.1],U,U,U,U,.d (.list (.int .i64)) r_17.1,U,.d (.list (.int .i64)) r_19.1,U,.d (.int .i64) r_21.1,U,U,U,.d (.list (.int .i64)) r_31.1,U,.d (.int .i64) k_33,U,U,U,U,U,U,U,U,U,U,U,U,U,U,U,U,U,U,U,U,U,U,U,U,U,U,U,U,U,U,U,U,U,U,U,U,U,U,U,U,U,U,U,U,U,U,U,U,U,U,U,U,U,U,U,U,U,U,U,U,U,U,U,U,U,U,U,U,U,U,U,U,U,U,U,U,U,U,U,U,U,U,U,U,U,U,U,U,U,U,U,U,U,U,U,U,U,U,U,U,U,U,U,U,U,U,U,U,U,U,U,U,U,U,U,U,U,U,U,U,U,U,U,U,U,U,U,U,U,U,U,U,U,U,U,U,U,U,U,U,U,U,U,U,U,U,U,U,U,U,U,U,U,U,U,U,U,U,U,U,U,U,U,U,U,U,U,U,U,U,U,U,U,U,U,U,U,U,U,U,U,U,U,U,U,U,U,U,U,U,U,U]
theorem L4_0_succ (N:Nat) (n_L4_0:Nat) (x:lt30) (r_17:lt2) (r_19:lt2) (r_21:(Int×(Int×Unit))) (r_31:lt2) (k_33:Int):L4_0 N  (n_L4_0+1) x r_17 r_19 r_21 r_31 k_33 =
 (match (decide (k_33<(lenI r_17.1))) with|true=>bif (inb (IntKind.i64.wrap (k_33 - 1)) r_17.1.length) then match f18v (x.1,((List.getD r_17.1 (IntKind.i64.wrap (k_33 - 1)).toNat 0),())) with | .ret r_34=>(match (!r_34) with|true=>.ret false|false=>bif (inb (IntKind.i64.wrap (k_33 - 1)) r_17.1.length) then bif (inb (List.getD r_17.1 (IntKind.i64.wrap (k_33 - 1)).toNat 0) x.1.2.1.length) then bif (inb k_33 r_17.1.length) then match (((List.getD x.1.2.1 (List.getD r_17.1 (IntKind.i64.wrap (k_33 - 1)).toNat 0).toNat (0,([],())))).1 != (List.getD r_17.1 k_33.toNat 0)) with|true=>.ret false|false=>L4_0 N n_L4_0 x r_17 r_19 r_21 r_31 (IntKind.i64.wrap (k_33+1)) else .fail else .fail else .fail) | .pan p=>.pan p | .fail=>.fail else .fail|false=>match f23v (r_17.1,(x.2.2.2.1,())) with | .ret r_36=>(match (!r_36) with|true=>(match f14v () with | .ret r=>.ret r | .pan p=>.pan p | .fail=>.fail)|false=>match f23v (r_19.1,(x.2.2.2.1,())) with | .ret r_40=>(match (!r_40) with|true=>(match f14v () with | .ret r=>.ret r | .pan p=>.pan p | .fail=>.fail)|false=>match (decide (x.2.2.2.1<=r_21.1)) with|true=>(match f23v (r_31.1,(x.2.2.2.1,())) with | .ret r_44=>(match r_44 with|true=>(match f14v () with | .ret r=>.ret r | .pan p=>.pan p | .fail=>.fail)|false=>.ret false) | .pan p=>.pan p | .fail=>.fail)|false=>.ret false) | .pan p=>.pan p | .fail=>.fail) | .pan p=>.pan p | .fail=>.fail:Out Bool):=by kernel_rfl
def F4 (N:Nat) (x:lt30):Out Bool:=match f22v (x.1,()) with | .ret r_1=>(match (!r_1) with|true=>(match f14v () with | .ret r=>.ret r | .pan p=>.pan p | .fail=>.fail)|false=>match f18v (x.1,(x.2.1,())) with | .ret r_5=>(match (!r_5) with|true=>(match f14v () with | .ret r=>.ret r | .pan p=>.pan p | .fail=>.fail)|false=>match f18v (x.1,(x.2.2.1,())) with | .ret r_9=>(match (!r_9) with|true=>(match f14v () with | .ret r=>.ret r | .pan p=>.pan p | .fail=>.fail)|false=>match f18v (x.1,(x.2.2.2.1,())) with | .ret r_13=>(match (!r_13) with|true=>(match f14v () with | .ret r=>.ret r | .pan p=>.pan p | .fail=>.fail)|false=>match f15v (x.1,(x.2.1,())) with | .ret r_17=>(match f15v (x.1,(x.2.2.1,())) with | .ret r_19=>(match f16v (x.1,(x.2.1,(x.2.2.1,()))) with | .ret r_21=>(match f16v (x.1,(x.2.2.1,(x.2.1,()))) with | .ret r_23=>(match (r_17.2.1 != 0) with|true=>.ret false|false=>match (r_19.2.1 != 0) with|true=>.ret false|false=>match (r_21.2.1 != 0) with|true=>.ret false|false=>match (r_23.2.1 != 0) with|true=>.ret false|false=>match (r_21.1 != r_23.1) with|true=>.ret false|false=>match (decide ((lenI r_17.1) > (lenI x.1.2.1))) with|true=>.ret false|false=>match (decide ((lenI r_19.1) > (lenI x.1.2.1))) with|true=>.ret false|false=>match f18v (x.1,(r_21.1,())) with | .ret r_25=>(match (!r_25) with|true=>.ret false|false=>match f23v (r_17.1,(r_21.1,())) with | .ret r_27=>(match (!r_27) with|true=>.ret false|false=>match f23v (r_19.1,(r_21.1,())) with | .ret r_29=>(match (!r_29) with|true=>.ret false|false=>match f15v (x.1,(r_21.1,())) with | .ret r_31=>(match (r_31.2.1 != 0) with|true=>.ret false|false=>match (decide ((lenI r_31.1) > (lenI x.1.2.1))) with|true=>.ret false|false=>match ((lenI r_17.1)==0) with|true=>.ret false|false=>bif (inb 0 r_17.1.length) then match ((List.getD r_17.1 (0:Int).toNat 0) != x.2.1) with|true=>.ret false|false=>bif (inb (IntKind.i64.wrap ((lenI r_17.1) - 1)) r_17.1.length) then match ((List.getD r_17.1 (IntKind.i64.wrap ((lenI r_17.1) - 1)).toNat 0) != 0) with|true=>.ret false|false=>L4_0 N N x r_17 r_19 r_21 r_31 1 else .fail else .fail) | .pan p=>.pan p | .fail=>.fail) | .pan p=>.pan p | .fail=>.fail) | .pan p=>.pan p | .fail=>.fail) | .pan p=>.pan p | .fail=>.fail) | .pan p=>.pan p | .fail=>.fail) | .pan p=>.pan p | .fail=>.fail) | .pan p=>.pan p | .fail=>.fail) | .pan p=>.pan p | .fail=>.fail) | .pan p=>.pan p | .fail=>.fail) | .pan p=>.pan p | .fail=>.fail) | .pan p=>.pan p | .fail=>.fail) | .pan p=>.pan p | .fail=>.fail
theorem e4 (N:Nat) (x:lt30):vfn Tryz.prog (phi specs4) hints4 N Tryz.f4 false false ty28 .bool x=F4 N x:=by kernel_rfl
def f4 (x:lt30):Out Bool:=F4 fuel x
def sp4:Spec:=⟨4,.call,ty28,.bool,false,false,f4⟩
theorem c4:Contract Tryz.prog sp4:=contract_at (l:=specs4) (arg:=ty28) (res:=.bool) (multi:=false) (own:=false) (F:=f4) mixed (all_cons c22v (all_cons c14v (all_cons c18v (all_cons c15v (all_cons c16v (all_cons c23v all_nil)))))) Tryz.func4 rfl hints4 fun x _=>⟨fuel,e4 fuel x⟩
end Go.V
namespace Go.V
open Go.Proofs
theorem path_head {t:TREE} (ht:TreeOK t) {n:Int} (h:IsCopy t n):(pathV t n).getD 0 0=n:=by
 by_cases e:n=0
 . subst e;rw [path0];rfl
 . rw [path_up ht (by have:=h.l;omega) h.h];rfl
theorem path_pos {t:TREE} (ht:TreeOK t) {n:Int} (h:IsCopy t n):0<(pathV t n).length:=List.length_pos_of_mem (path_self ht h.l h.h)
theorem path_last {t:TREE} (ht:TreeOK t):∀ n:Int,0<=n->n<t.2.1.length->(pathV t n).getD ((pathV t n).length - 1) 0=0:=by
 refine path_ind ht (P:=fun n=>(pathV t n).getD ((pathV t n).length - 1) 0=0) ?_ ?_
 . rw [path0];rfl
 . intro n h0 h1 ih
   have hu:=up_in ht h0 h1
   have hp:=path_pos ht (n:=parentAt t n.toNat) ⟨hu.1,hu.2.2⟩
   rw [path_up ht h0 h1,List.length_cons,Nat.add_sub_cancel]
   obtain ⟨k,hk⟩:=succ_of hp
   rw [hk] at ih ⊢
   rw [Nat.add_sub_cancel] at ih
   rw [List.getD_cons_succ]
   exact ih
theorem path_next {t:TREE} (ht:TreeOK t):∀ n:Int,0<=n->n<t.2.1.length->∀ k,k+1<(pathV t n).length->IsCopy t ((pathV t n).getD k 0)/\parentAt t ((pathV t n).getD k 0).toNat=(pathV t n).getD (k+1) 0:=by
 refine path_ind ht (P:=fun n=>∀ k,k+1<(pathV t n).length->IsCopy t ((pathV t n).getD k 0)/\parentAt t ((pathV t n).getD k 0).toNat=(pathV t n).getD (k+1) 0) ?_ ?_
 . rw [path0];intro k hk;simp at hk
 . intro n h0 h1 ih k hk
   have hu:=up_in ht h0 h1
   rw [path_up ht h0 h1] at hk ⊢
   rw [List.length_cons] at hk
   cases k with
   | zero =>
    rw [List.getD_cons_zero,List.getD_cons_succ,path_head ht ⟨hu.1,hu.2.2⟩]
    exact ⟨⟨by omega,h1⟩,rfl⟩
   | succ k =>
    rw [List.getD_cons_succ,List.getD_cons_succ]
    exact ih k (by omega)
theorem law4 (t:TREE) (a b c:Int):f4 (t,(a,(b,(c,())))) = .ret true:=by
 have hfb:=fuel_big
 show F4 fuel (t,(a,(b,(c,()))))=_
 unfold F4
 simp only [f22v_eq,f18v_eq,f15v_eq,f16v_eq,f23v_eq]
 rcases f22_at t with h22|⟨h22,ht⟩
 . simp only [h22,nf,known_true]
 have hs:=ht.small
 simp only [h22,nt,f18_at (t:=t) _ hs]
 rcases copy_cases t a with ⟨ha,ea⟩|⟨ha,ea⟩
 rotate_left
 . simp only [ea,nf,known_true]
 rcases copy_cases t b with ⟨hb,eb⟩|⟨hb,eb⟩
 rotate_left
 . simp only [ea,nt,eb,nf,known_true]
 rcases copy_cases t c with ⟨hc,ec⟩|⟨hc,ec⟩
 rotate_left
 . simp only [ea,eb,nt,ec,nf,known_true]
 have hn:=shared_copy ht ha hb
 obtain ⟨_,m1,m2,m3⟩:=shared_all ht ha hb
 have la:=path_len ht ha.l ha.h
 have lb:=path_len ht hb.l hb.h
 have ln:=path_len ht hn.l hn.h
 have pa:=path_pos ht ha
 have cm:=shared_comm ht hb ha
 have l1:decide (lenI (pathV t a) > lenI t.2.1)=false:=dF (by delta lenI;omega)
 have l2:decide (lenI (pathV t b) > lenI t.2.1)=false:=dF (by delta lenI;omega)
 have l3:decide (lenI (pathV t (sharedV t a b)) > lenI t.2.1)=false:=dF (by delta lenI;omega)
 have l4:(lenI (pathV t a)==(0:Int))=false:=eF (by delta lenI;omega)
 have l5:IntKind.i64.wrap (lenI (pathV t a) - 1)=(((pathV t a).length - 1:Nat):Int):=by delta lenI;rw [wr (by omega) (by omega)];omega
 have l6:((pathV t a).getD 0 0 != a)=false:=nF (path_head ht ha)
 have l7:((pathV t a).getD ((pathV t a).length - 1) 0 != (0:Int))=false:=nF (path_last ht a ha.l ha.h)
 have z0:(0:Int).toNat=0:=rfl
 simp only [ea,eb,ec,nt,f15_at ht ha.l ha.h,f15_at ht hb.l hb.h,f15_at ht hn.l hn.h,f16_at ht ha hb,f16_at ht hb ha,cm,n00,bne_self_eq_false,l1,l2,l3,l4,l5,z0,l6,dT (show 0<=sharedV t a b/\sharedV t a b<(t.2.1.length:Int) from ⟨hn.l,hn.h⟩),
  f23_at (pathV t a) _ (path_small ht ha),f23_at (pathV t b) _ (path_small ht hb),isT m1,isT m2,inbT (Int.le_refl 0) (show (0:Int)<((pathV t a).length:Int) by omega),inbT (show (0:Int)<=(((pathV t a).length - 1:Nat):Int) by omega) (show (((pathV t a).length - 1:Nat):Int)<((pathV t a).length:Int) by omega),cond_true,Int.toNat_natCast,l7]
 have key:=runL1 (L:=fun n i=>L4_0 fuel n (t,(a,(b,(c,())))) (pathV t a,(0,())) (pathV t b,(0,())) (sharedV t a b,(0,())) (pathV t (sharedV t a b),(0,())) i) (lo:=1) (len:=(pathV t a).length) (K:=.ret true) (fun n i h1 hi=>?_) (fun n=>?_) ((pathV t a).length - 1) fuel 1 (Nat.le_refl _) (by have:=ht.copies;omega) (by omega)
 . exact key
 . try dsimp only
   rw [L4_0_succ]
   try delta lenI
   obtain ⟨j,rfl⟩:=succ_of (show 0<i by omega)
   obtain ⟨q1,q2⟩:=path_next ht a ha.l ha.h j hi
   have w:IntKind.i64.wrap (((j+1:Nat):Int) - 1)=(j:Int):=by rw [wr (by omega) (by omega)];omega
   have q3:(List.getD t.2.1 ((pathV t a).getD j 0).toNat (0,([],()))).1=(pathV t a).getD (j+1) 0:=q2
   simp only [dT (show ((j+1:Nat):Int)<(pathV t a).length by omega),w,inbT (show (0:Int)<=j by omega) (show (j:Int)<(pathV t a).length by omega),inbT (show (0:Int)<=((j+1:Nat):Int) by omega) (show ((j+1:Nat):Int)<(pathV t a).length by omega),cond_true,Int.toNat_natCast,f18v_eq,f18_at (t:=t) _ hs,dT (show 0<=(pathV t a).getD j 0/\(pathV t a).getD j 0<(t.2.1.length:Int) from ⟨q1.l,q1.h⟩),nt,inbT q1.l q1.h,q3,bne_self_eq_false,wn (show j+1<1000000000 by omega)]
 . try dsimp only
   rw [L4_0_succ]
   try delta lenI
   simp only [dF (show ¬ (((pathV t a).length:Nat):Int)<(pathV t a).length by omega),f23v_eq,f23_at (pathV t a) c (path_small ht ha),f23_at (pathV t b) c (path_small ht hb),f23_at (pathV t (sharedV t a b)) c (path_small ht hn)]
   by_cases h1:c∈pathV t a
   rotate_left
   . simp only [dF h1,nf,known_true]
   by_cases h2:c∈pathV t b
   rotate_left
   . simp only [dT h1,nt,dF h2,nf,known_true]
   have h3:=m3 c h1 h2
   simp only [dT h1,dT h2,nt,dT h3,dT (path_sub ht c a ha.l ha.h m1 h1 h3),known_true]
end Go.V
end
