/- What law 3 of the copies needs beyond what all laws need: functions read, and the plain law. -/
import Derived.Test.YtmkbnifehdhbbabGreatDoorQL
import Derived.Test.YtmkbnifehdhbbabGreatDoorCR2
import Derived.Test.YtmkbnifehdhbbabGreatDoorCRA
set_option linter.all false
noncomputable section
namespace Go.V
open Go.Proofs
def specs13:List Spec:=[]
def hints13:List (Nat×List Nat):=[(2,[1,3])]
def L13_0 (N:Nat) (n_L13_0:Nat) (x:lt1) (i_1:Int):Out Bool :=
 vloop Tryz.prog (phi specs13) hints13 N Tryz.f12 false false .bool [.at 1,.at 0,.at 1,.at 0] n_L13_0 [U,.box [.d (.int .i64) x.1.1,.d ty0 x.1.2.1],U,.d (.int .i64) i_1,U,U,U,U,U,U,U,U,U,U,U,U,U,U,U,U,U,U,U,U,U,U,U]
theorem L13_0_succ (N:Nat) (n_L13_0:Nat) (x:lt1) (i_1:Int):L13_0 N  (n_L13_0+1) x i_1 =
 (match (decide (i_1<(lenI x.1.2.1))) with|true=>(match (decide (i_1<10)) with|true=>bif (inb i_1 x.1.2.1.length) then match (decide ((lenI ((List.getD x.1.2.1 i_1.toNat (0,([],())))).2.1) > 5)) with|true=>.ret false|false=>L13_0 N n_L13_0 x (IntKind.i64.wrap (i_1+1)) else .fail|false=>.ret (decide ((lenI x.1.2.1)<=10)))|false=>.ret (decide ((lenI x.1.2.1)<=10)):Out Bool):=by kernel_rfl
def F13 (N:Nat) (x:lt1):Out Bool:=L13_0 N N x 0
theorem e13 (N:Nat) (x:lt1):vfn Tryz.prog (phi specs13) hints13 N Tryz.f12 false false ty2 .bool x=F13 N x:=by kernel_rfl
def f13 (x:lt1):Out Bool:=F13 fuel x
def sp13:Spec:=⟨12,.call,ty2,.bool,false,false,f13⟩
theorem c13:Contract Tryz.prog sp13:=contract_at (l:=specs13) (arg:=ty2) (res:=.bool) (multi:=false) (own:=false) (F:=f13) mixed all_nil Tryz.func12 rfl hints13 fun x _=>⟨fuel,e13 fuel x⟩
def specs20 (g:lt4->Out (List Int)):List Spec:=[⟨120,.call,ty6,(.list (.int .i64)),false,true,g⟩]
def hints20:List (Nat×List Nat):=[]
def F20 (g:lt4->Out (List Int)) (N:Nat) (x:lt4):Out (List Int):=match (x.2.1==0) with|true=>.ret ([0]:List Int)|false=>bif (inb x.2.1 x.1.2.1.length) then match g (x.1,(((List.getD x.1.2.1 x.2.1.toNat (0,([],())))).1,())) with | .ret r_1=>bif (fits ([x.2.1]:List Int) r_1) then .ret (([x.2.1]:List Int)++r_1) else .fail | .pan p=>.pan p | .fail=>.fail else .fail
theorem e20 (g:lt4->Out (List Int)) (N:Nat) (x:lt4):vfn Tryz.prog (phi (specs20 g)) hints20 N Tryz.f120 false true ty6 (.list (.int .i64)) x=F20 g N x:=by kernel_rfl
def f20r:Nat->lt4->Out (List Int)
 | 0,_=>.fail
 | m+1,x=>F20 (f20r m) fuel x
theorem c20r:∀ m,Contract Tryz.prog ⟨120,.call,ty6,(.list (.int .i64)),false,true,f20r m⟩
 | 0=>fun _ _ _ _ _ _ _=>trivial
 | m+1=>contract_at (l:=specs20 (f20r m)) (arg:=ty6) (res:=(.list (.int .i64))) (multi:=false) (own:=true) (F:=f20r (m+1)) mixed (all_cons (c20r m) all_nil) Tryz.func120 rfl hints20 fun x _=>⟨fuel,e20 (f20r m) fuel x⟩
def f20 (x:lt4):Out (List Int):=f20r fuel x
def sp20:Spec:=⟨120,.call,ty6,(.list (.int .i64)),false,true,f20⟩
theorem c20:Contract Tryz.prog sp20:=c20r fuel
def specs23:List Spec:=[]
def hints23:List (Nat×List Nat):=[(2,[0,1,5])]
def L23_0 (N:Nat) (n_L23_0:Nat) (x:lt2) (i_1:Int):Out Bool :=
 vloop Tryz.prog (phi specs23) hints23 N Tryz.f63 false false .bool [.at 1,.at 0,.at 1,.at 0] n_L23_0 [.d (.list (.int .i64)) x.1,.d (.int .i64) x.2.1,U,U,U,.d (.int .i64) i_1,U,U,U,U,U,U,U,U,U,U,U,U]
theorem L23_0_succ (N:Nat) (n_L23_0:Nat) (x:lt2) (i_1:Int):L23_0 N  (n_L23_0+1) x i_1 =
 (match (decide (i_1<(lenI x.1))) with|true=>bif (inb i_1 x.1.length) then match ((List.getD x.1 i_1.toNat 0)==x.2.1) with|true=>.ret true|false=>L23_0 N n_L23_0 x (IntKind.i64.wrap (i_1+1)) else .fail|false=>.ret false:Out Bool):=by kernel_rfl
def F23 (N:Nat) (x:lt2):Out Bool:=L23_0 N N x 0
theorem e23 (N:Nat) (x:lt2):vfn Tryz.prog (phi specs23) hints23 N Tryz.f63 false false ty3 .bool x=F23 N x:=by kernel_rfl
def f23 (x:lt2):Out Bool:=F23 fuel x
def sp23:Spec:=⟨63,.call,ty3,.bool,false,false,f23⟩
theorem c23:Contract Tryz.prog sp23:=contract_at (l:=specs23) (arg:=ty3) (res:=.bool) (multi:=false) (own:=false) (F:=f23) mixed all_nil Tryz.func63 rfl hints23 fun x _=>⟨fuel,e23 fuel x⟩
def specs61:List Spec:=[]
def hints61:List (Nat×List Nat):=[]
theorem e61 (N:Nat) (x:(Int×(Int×(Int×Unit)))):vfn Tryz.prog (phi specs61) hints61 N Tryz.f60 false false ty10 .bool x=F61 N x:=by kernel_rfl
theorem c61:Contract Tryz.prog sp61:=contract_at (l:=specs61) (arg:=ty10) (res:=.bool) (multi:=false) (own:=false) (F:=f61) mixed all_nil Tryz.func60 rfl hints61 fun x _=>⟨fuel,e61 fuel x⟩
def specs21:List Spec:=[sp20,sp23]
def hints21:List (Nat×List Nat):=[(4,[7,8,9,10])]
def L21_0 (N:Nat) (n_L21_0:Nat) (a_5:(List Int)) (b_6:(List Int)) (n_7:Int) (i_8:Int):Out Int :=
 vloop Tryz.prog (phi specs21) hints21 N Tryz.f99 false false (.int .i64) [.at 1,.at 1,.at 1,.at 0,.at 1,.at 0] n_L21_0 [U,U,U,U,U,U,U,.own (.int .i64) a_5 false,.own (.int .i64) b_6 false,.d (.int .i64) n_7,.d (.int .i64) i_8,U,U,U,U,U,U,U,U,U,U,U,U,U,U,U,U,U,U,U,U,U,U,U,U,U]
theorem L21_0_succ (N:Nat) (n_L21_0:Nat) (a_5:(List Int)) (b_6:(List Int)) (n_7:Int) (i_8:Int):L21_0 N  (n_L21_0+1) a_5 b_6 n_7 i_8 =
 (match (decide (i_8<(lenI a_5))) with|true=>bif (inb i_8 a_5.length) then match f23 (b_6,((List.getD a_5 i_8.toNat 0),())) with | .ret r_9=>(match r_9 with|true=>bif (inb i_8 a_5.length) then L21_0 N n_L21_0 a_5 b_6 (if (List.getD a_5 i_8.toNat 0) > n_7 then (List.getD a_5 i_8.toNat 0) else n_7) (IntKind.i64.wrap (i_8+1)) else .fail|false=>L21_0 N n_L21_0 a_5 b_6 n_7 (IntKind.i64.wrap (i_8+1))) | .pan p=>.pan p | .fail=>.fail else .fail|false=>.ret n_7:Out Int):=by kernel_rfl
def F21 (N:Nat) (x:lt6):Out Int:=match f20 (x.1,(x.2.1,())) with | .ret r_1=>(match f20 (x.1,(x.2.2.1,())) with | .ret r_3=>L21_0 N N r_1 r_3 0 0 | .pan p=>.pan p | .fail=>.fail) | .pan p=>.pan p | .fail=>.fail
theorem e21 (N:Nat) (x:lt6):vfn Tryz.prog (phi specs21) hints21 N Tryz.f99 false false ty9 (.int .i64) x=F21 N x:=by kernel_rfl
def f21 (x:lt6):Out Int:=F21 fuel x
def sp21:Spec:=⟨99,.call,ty9,(.int .i64),false,false,f21⟩
theorem c21:Contract Tryz.prog sp21:=contract_at (l:=specs21) (arg:=ty9) (res:=(.int .i64)) (multi:=false) (own:=false) (F:=f21) mixed (all_cons c20 (all_cons c23 all_nil)) Tryz.func99 rfl hints21 fun x _=>⟨fuel,e21 fuel x⟩
def specs46:List Spec:=[sp61]
def hints46:List (Nat×List Nat):=[]
theorem e46 (N:Nat) (x:(Int×Unit)):vfn Tryz.prog (phi specs46) hints46 N Tryz.f31 false false (.prod (.int .i64) .unit) .bool x=F46 N x:=by kernel_rfl
theorem c46:Contract Tryz.prog sp46:=contract_at (l:=specs46) (arg:=(.prod (.int .i64) .unit)) (res:=.bool) (multi:=false) (own:=false) (F:=f46) mixed (all_cons c61 all_nil) Tryz.func31 rfl hints46 fun x _=>⟨fuel,e46 fuel x⟩
theorem e17 (N:Nat) (x:lt1):vfn Tryz.prog (phi specs17) hints17 N Tryz.f15 false false ty2 .bool x=F17 N x:=by kernel_rfl
def sp17:Spec:=⟨15,.call,ty2,.bool,false,false,f17⟩
theorem c17:Contract Tryz.prog sp17:=contract_at (l:=specs17) (arg:=ty2) (res:=.bool) (multi:=false) (own:=false) (F:=f17) mixed (all_cons c61 (all_cons c46 all_nil)) Tryz.func15 rfl hints17 fun x _=>⟨fuel,e17 fuel x⟩
end Go.V
namespace Go.V
open Go.Proofs
theorem f23_at (l:List Int) (x:Int) (h:l.length<1000000):f23 (l,(x,())) = .ret (decide (x∈l)):=by
 have hfb:=fuel_big;unfold f23 F23;have key:=findL (L:=fun n i=>L23_0 fuel n (l,(x,())) i) (len:=l.length) (K:=.ret false) (fun i=>l.getD i 0=x) (fun _=>.ret true) (fun n i hi=>?_) (fun n=>?_) l.length fuel 0 (by omega) (by omega)
 . rcases key with ⟨j,h1,h2,h3,h4,h5⟩|⟨h1,h2⟩
   . rw [show L23_0 fuel fuel (l,(x,())) 0=_ from h5,dT (show x∈l by rw [<- h3];exact getD_mem h2)]
   . rw [show L23_0 fuel fuel (l,(x,())) 0=_ from h2,dF fun hm=>?_];obtain ⟨i,hi,he⟩:=mem_getD hm;exact h1 i (Nat.zero_le _) hi he
 . try dsimp only
   rw [L23_0_succ]
   try delta lenI
   simp only [dT (show (i:Int)<l.length by omega),inbT (show (0:Int)<=i by omega) (show (i:Int)<l.length by omega),cond_true,Int.toNat_natCast,wn (show i<1000000000 by omega)]
   by_cases g:l.getD i 0=x
   . simp only [eT g];exact .inl ⟨g,trivial⟩
   . simp only [eF g];exact .inr ⟨g,trivial⟩
 . try dsimp only
   rw [L23_0_succ]
   try delta lenI
   simp only [dF (show ¬ ((l.length:Nat):Int)<l.length by omega)]
theorem f13_at (t:TREE):∃ b,f13 (t,()) = .ret b:=by
 have hfb:=fuel_big;unfold f13 F13;have done:∀ n i:Nat,¬ (i:Int)<t.2.1.length\/¬ i<10->∃ b,L13_0 fuel (n+1) (t,()) i = .ret b:=fun n i h=>by
  rw [L13_0_succ]
  try delta lenI
  by_cases h1:(i:Int)<t.2.1.length
  . have h2:¬ (i:Int)<10:=by rcases h with h|h<;>omega
    simp only [dT h1,dF h2];exact ⟨_,rfl⟩
  . simp only [dF h1];exact ⟨_,rfl⟩
 have loop:∀ (d n i:Nat),d<n->i+d=10->∃ b,L13_0 fuel n (t,()) i = .ret b:=by
  intro d
  induction d with
  | zero =>
   intro n i hn hi;obtain ⟨n,rfl⟩:=succ_of hn;exact done n i (.inr (by omega))
  | succ d ih =>
   intro n i hn hi;obtain ⟨n,rfl⟩:=succ_of hn
   by_cases h1:(i:Int)<t.2.1.length
   . rw [L13_0_succ]
     try delta lenI
     simp only [dT h1,dT (show (i:Int)<10 by omega),inbT (show (0:Int)<=i by omega) h1,cond_true,wn (show i<1000000000 by omega)];split
     . exact ⟨_,rfl⟩
     . exact ih n (i+1) (by omega) (by omega)
   . exact done n i (.inl h1)
 exact loop 10 fuel 0 (by omega) (by omega)
theorem path_sub {t:TREE} (ht:TreeOK t) {m:Int} (y:Int):∀ n:Int,0<=n->n<t.2.1.length->m∈pathV t n->y∈pathV t n->y<=m->y∈pathV t m:=by
 refine path_ind ht (P:=fun n=>m∈pathV t n->y∈pathV t n->y<=m->y∈pathV t m) ?_ ?_
 . rw [path0];intro h1 h2 h3;simp at h1 h2;subst h1 h2;rw [path0];simp
 . intro n h0 h1 ih h2 h3 h4;rw [path_up ht h0 h1] at h2 h3;have hu:=up_in ht h0 h1;rcases List.mem_cons.1 h2 with rfl|h2
   . rw [path_up ht h0 h1];exact h3
   . rcases List.mem_cons.1 h3 with rfl|h3
     . have:=path_mem ht hu.1 hu.2.2 h2;omega
     . exact ih h2 h3 h4
theorem path_trans {t:TREE} (ht:TreeOK t) {m x:Int} (h:x∈pathV t m):∀ n:Int,0<=n->n<t.2.1.length->m∈pathV t n->x∈pathV t n:=by
 refine path_ind ht (P:=fun n=>m∈pathV t n->x∈pathV t n) ?_ ?_
 . rw [path0];intro h1;simp at h1;subst h1;rw [path0] at h;exact h
 . intro n h0 h1 ih h2;rw [path_up ht h0 h1] at h2 ⊢;rcases List.mem_cons.1 h2 with rfl|h2
   . rw [path_up ht h0 h1] at h;exact h
   . exact List.mem_cons_of_mem _ (ih h2)
theorem f20r_at {t:TREE} (ht:TreeOK t):∀ (m:Nat) (n:Int),n<m->0<=n->n<t.2.1.length->f20r m (t,(n,())) = .ret (pathV t n)
 | 0,n,h,h0,h1=>by omega
 | m+1,n,h,h0,h1=>by
  show F20 (f20r m) fuel (t,(n,()))=_;unfold F20
  by_cases e:n=0
  . subst e;rfl
  . have hu:=up_in ht (n:=n) (by omega) h1;have hl:=path_len ht hu.1 hu.2.2;have hc:=ht.copies;have ih:=f20r_at ht m (parentAt t n.toNat) (by omega) hu.1 hu.2.2;have ih':f20r m (t,((t.2.1.getD n.toNat ((0:Int),(([]:List Int),()))).1,())) = .ret (pathV t (parentAt t n.toNat)):=ih
    rw [path_up ht (n:=n) (by omega) h1];simp only [eF e,inbT h0 h1,cond_true,ih',fitsT (xs:=[n]) (ys:=pathV t (parentAt t n.toNat)) (by simp;omega)];rfl
theorem f20_at {t:TREE} (ht:TreeOK t) {n:Int} (h0:0<=n) (h1:n<t.2.1.length):f20 (t,(n,())) = .ret (pathV t n):=f20r_at ht fuel n (by have:=fuel_big;have:=ht.copies;omega) h0 h1
theorem shared_comm {t:TREE} (ht:TreeOK t) {a b:Int} (ha:IsCopy t a) (hb:IsCopy t b):sharedV t a b=sharedV t b a:=by
 obtain ⟨_,g2,g3,g4⟩:=shared_all ht hb ha;exact shared_uniq ht ha hb g3 g2 fun x h1 h2=>g4 x h2 h1
theorem shared_copy {t:TREE} (ht:TreeOK t) {a b:Int} (ha:IsCopy t a) (hb:IsCopy t b):IsCopy t (sharedV t a b):=by
 obtain ⟨_,g2,_,_⟩:=shared_all ht ha hb;have:=path_mem ht ha.l ha.h g2;exact ⟨this.1,by have:=ha.h;omega⟩
theorem f21_at {t:TREE} (ht:TreeOK t) {a b:Int} (ha:IsCopy t a) (hb:IsCopy t b):f21 (t,(a,(b,()))) = .ret (sharedV t a b):=by
 have hfb:=fuel_big;have hc:=ht.copies;have hla:=path_len ht ha.l ha.h;have hlb:=path_len ht hb.l hb.h;unfold f21 F21;simp only [f20_at ht ha.l ha.h,f20_at ht hb.l hb.h]
 let S:Nat->Int:=fun i=>((pathV t a).take i).foldl (fun n x=>if x∈pathV t b then (if x > n then x else n) else n) 0
 have hS:∀ i,i<(pathV t a).length->S (i+1)=if (pathV t a).getD i 0∈pathV t b then (if (pathV t a).getD i 0 > S i then (pathV t a).getD i 0 else S i) else S i:=fun i hi=>by
  show List.foldl _ 0 _=_;rw [List.take_add_one,List.foldl_append,List.getElem?_eq_getElem hi,List.getD_eq_getElem?_getD,List.getElem?_eq_getElem hi];rfl
 have key:=runL (L:=fun n i=>L21_0 fuel n (pathV t a) (pathV t b) (S i) i) (len:=(pathV t a).length) (K:=.ret (S (pathV t a).length)) (fun n i hi=>?_) (fun n=>?_) (pathV t a).length fuel 0 (by omega) (by omega)
 . refine Eq.trans (show _=L21_0 fuel fuel (pathV t a) (pathV t b) (S 0) ((0:Nat):Int) from rfl) (key.trans ?_)
   congr 1
   symm;have hinv:∀ i,i<=(pathV t a).length->S i∈pathV t a/\S i∈pathV t b/\∀ j,j<i->(pathV t a).getD j 0∈pathV t b->(pathV t a).getD j 0<=S i:=by
    intro i
    induction i with
    | zero=>exact fun _=>⟨path_zero ht ha.l ha.h,path_zero ht hb.l hb.h,fun j hj=>by omega⟩
    | succ i ih =>
     intro hi;obtain ⟨i1,i2,i3⟩:=ih (by omega);rw [hS i (by omega)]
     by_cases g:(pathV t a).getD i 0∈pathV t b
     . rw [if_pos g]
       by_cases g2:(pathV t a).getD i 0 > S i
       . rw [if_pos g2];refine ⟨getD_mem (by omega),g,fun j hj hm=>?_⟩
         by_cases ej:j=i
         . subst ej;exact Int.le_refl _
         . have:=i3 j (by omega) hm;omega
       . rw [if_neg g2];refine ⟨i1,i2,fun j hj hm=>?_⟩
         by_cases ej:j=i
         . subst ej;omega
         . exact i3 j (by omega) hm
     . rw [if_neg g];refine ⟨i1,i2,fun j hj hm=>?_⟩
       by_cases ej:j=i
       . subst ej;exact absurd hm g
       . exact i3 j (by omega) hm
   obtain ⟨h1,h2,h3⟩:=hinv _ (Nat.le_refl _);refine shared_uniq ht ha hb h1 h2 fun x h4 h5=>?_
   obtain ⟨j,hj,rfl⟩:=mem_getD h4;exact h3 j hj h5
 . try dsimp only
   rw [L21_0_succ]
   try delta lenI
   simp only [dT (show (i:Int)<(pathV t a).length by omega),inbT (show (0:Int)<=i by omega) (show (i:Int)<(pathV t a).length by omega),cond_true,Int.toNat_natCast,wn (show i<1000000000 by omega),f23_at _ _ (show (pathV t b).length<1000000 by omega)]
   rw [hS i hi]
   by_cases g:(pathV t a).getD i 0∈pathV t b
   . simp only [dT g,if_pos g]
   . simp only [dF g,if_neg g]
 . try dsimp only
   rw [L21_0_succ]
   try delta lenI
   simp only [dF (show ¬ (((pathV t a).length:Nat):Int)<(pathV t a).length by omega)]
end Go.V
namespace Go.V
open Go.Proofs
theorem TreeOK.t17 {t:TREE} (h:TreeOK t):f17 (t,()) = .ret true:=by
 rcases tree_ret (t:=t) with ⟨_,h1,_⟩|⟨h1,_⟩
 . exact h1
 . exact absurd h h1
theorem no17 {t:TREE} (h:¬ TreeOK t):f17 (t,()) = .ret false:=by
 rcases tree_ret (t:=t) with ⟨h1,_⟩|⟨_,h1,_⟩
 . exact absurd h1 h
 . exact h1
end Go.V
namespace Go.V
open Go.Proofs
theorem f50_no {t:TREE} {l:List Int} (hl:l.length<1000000) (h:¬ (TreeOK t/\HandsOK t l)):f50 (t,(l,())) = .ret ([],(2,())):=by
 unfold f50 F50;rcases tree_ret (t:=t) with ⟨ht,_,h2⟩|⟨h1,_,h2⟩
 . obtain ⟨b,h3,h4⟩:=f85_big ht l hl;cases b with
   | true=>exact absurd ⟨ht,h4.1 rfl⟩ h
   | false=>simp only [h2,Bool.not_true,h3,Bool.not_false]
 . simp only [h2,Bool.not_false]
end Go.V
namespace Go.V
open Go.Proofs
@[irreducible] def f13v:lt1->Out Bool:=veil f13
theorem f13v_eq:f13v=f13:=by unfold f13v;exact veil_eq f13
def sp13v:Spec:=⟨12,.call,ty2,.bool,false,false,f13v⟩
theorem c13v:Contract Tryz.prog sp13v:=by
 unfold sp13v
 rw [f13v_eq]
 exact c13
@[irreducible] def f17v:lt1->Out Bool:=veil f17
theorem f17v_eq:f17v=f17:=by unfold f17v;exact veil_eq f17
def sp17v:Spec:=⟨15,.call,ty2,.bool,false,false,f17v⟩
theorem c17v:Contract Tryz.prog sp17v:=by
 unfold sp17v
 rw [f17v_eq]
 exact c17
end Go.V
namespace Go.V
open Go.Proofs
theorem b22:((2:Int)==2)=true:=rfl
theorem b00:((0:Int)==0)=true:=rfl
theorem n00:((0:Int) != 0)=false:=rfl
theorem bl0:(lenI ([]:List Int)==(0:Int))=true:=rfl
theorem nt:(!true)=false:=rfl
theorem nf:(!false)=true:=rfl
theorem TreeOK.small {t:TREE} (h:TreeOK t):t.2.1.length<1000000:=by have:=h.copies;omega
end Go.V
namespace Go.V
open Go.Proofs
def specs16n:List Spec:=[sp61]
def hints16n:List (Nat×List Nat):=[(2,[1,2,5])]
def L16n_0 (N:Nat) (n_L16n_0:Nat) (x:lt15) (i_1:Int):Out Bool :=
 vloop Tryz.prog (phi specs16n) hints16n N Tryz.f16 false false .bool [.at 1,.at 0,.at 1,.at 0] n_L16n_0 [U,.d (.list (.int .i64)) x.2.1,.box [.d (.int .i64) x.1.1,.d ty0 x.1.2.1],U,U,.d (.int .i64) i_1,U,U,U,U,U,U,U,U,U,U,U,U,U,U,U,U,U,U,U,U,U,U,U,U,U,U,U,U,U,U,U,U]
theorem L16n_0_succ (N:Nat) (n_L16n_0:Nat) (x:lt15) (i_1:Int):L16n_0 N  (n_L16n_0+1) x i_1 =
 (match (decide (i_1<(lenI x.2.1))) with|true=>bif (inb i_1 x.2.1.length) then match f61 ((List.getD x.2.1 i_1.toNat 0),(1,((IntKind.i64.wrap ((lenI x.1.2.1) - 1)),()))) with | .ret r_2=>(match (!r_2) with|true=>.ret false|false=>match (decide (i_1 > 0)) with|true=>bif (inb i_1 x.2.1.length) then bif (inb (IntKind.i64.wrap (i_1 - 1)) x.2.1.length) then match (decide ((List.getD x.2.1 i_1.toNat 0)<=(List.getD x.2.1 (IntKind.i64.wrap (i_1 - 1)).toNat 0))) with|true=>.ret false|false=>L16n_0 N n_L16n_0 x (IntKind.i64.wrap (i_1+1)) else .fail else .fail|false=>L16n_0 N n_L16n_0 x (IntKind.i64.wrap (i_1+1))) | .pan p=>.pan p | .fail=>.fail else .fail|false=>.ret true:Out Bool):=by kernel_rfl
def F16n (N:Nat) (x:lt15):Out Bool:=L16n_0 N N x 0
theorem e16n (N:Nat) (x:lt15):vfn Tryz.prog (phi specs16n) hints16n N Tryz.f16 false false ty23 .bool x=F16n N x:=by kernel_rfl
def f16n (x:lt15):Out Bool:=F16n fuel x
def sp16n:Spec:=⟨16,.call,ty23,.bool,false,false,f16n⟩
theorem c16n:Contract Tryz.prog sp16n:=contract_at (l:=specs16n) (arg:=ty23) (res:=.bool) (multi:=false) (own:=false) (F:=f16n) mixed (all_cons c61 all_nil) Tryz.func16 rfl hints16n fun x _=>⟨fuel,e16n fuel x⟩
def specs61n (g:((List Int)×((List Int)×(Int×Unit)))->Out (List (List Int))):List Spec:=[⟨61,.call,(.prod (.list (.int .i64)) (.prod (.list (.int .i64)) (.prod (.int .i64) .unit))),ty1,false,true,g⟩]
def hints61n:List (Nat×List Nat):=[(3,[0,1,7,8])]
def L61n_0 (g:((List Int)×((List Int)×(Int×Unit)))->Out (List (List Int))) (N:Nat) (n_L61n_0:Nat) (x:((List Int)×((List Int)×(Int×Unit)))) (out_1:(List (List Int))) (i_2:Int):Out (List (List Int)) :=
 vloop Tryz.prog (phi (specs61n g)) hints61n N Tryz.f61 false true ty1 [.at 1,.at 1,.at 0,.at 1,.at 0] n_L61n_0 [.d (.list (.int .i64)) x.1,.d (.list (.int .i64)) x.2.1,U,U,U,U,U,.own (.list (.int .i64)) out_1 false,.d (.int .i64) i_2,U,U,U,U,U,U,U,U,U,U,U,U,U,U,U,U,U,U,U,U,U,U,U,U]
theorem L61n_0_succ (g:((List Int)×((List Int)×(Int×Unit)))->Out (List (List Int))) (N:Nat) (n_L61n_0:Nat) (x:((List Int)×((List Int)×(Int×Unit)))) (out_1:(List (List Int))) (i_2:Int):L61n_0 g N  (n_L61n_0+1) x out_1 i_2 =
 (match (decide (i_2<(lenI x.2.1))) with|true=>bif (fits [] x.1) then bif (inb i_2 x.2.1.length) then bif (fits x.1 ([(List.getD x.2.1 i_2.toNat 0)]:List Int)) then match g ((x.1++([(List.getD x.2.1 i_2.toNat 0)]:List Int)),(x.2.1,((IntKind.i64.wrap (i_2+1)),()))) with | .ret r_3=>bif (fits out_1 r_3) then L61n_0 g N n_L61n_0 x (out_1++r_3) (IntKind.i64.wrap (i_2+1)) else .fail | .pan p=>.pan p | .fail=>.fail else .fail else .fail else .fail|false=>.ret out_1:Out (List (List Int))):=by kernel_rfl
def F61n (g:((List Int)×((List Int)×(Int×Unit)))->Out (List (List Int))) (N:Nat) (x:((List Int)×((List Int)×(Int×Unit)))):Out (List (List Int)):=L61n_0 g N N x ([x.1]:List (List Int)) x.2.2.1
theorem e61n (g:((List Int)×((List Int)×(Int×Unit)))->Out (List (List Int))) (N:Nat) (x:((List Int)×((List Int)×(Int×Unit)))):vfn Tryz.prog (phi (specs61n g)) hints61n N Tryz.f61 false true (.prod (.list (.int .i64)) (.prod (.list (.int .i64)) (.prod (.int .i64) .unit))) ty1 x=F61n g N x:=by kernel_rfl
def f61nr:Nat->((List Int)×((List Int)×(Int×Unit)))->Out (List (List Int))
 | 0,_=>.fail
 | m+1,x=>F61n (f61nr m) fuel x
theorem c61nr:∀ m,Contract Tryz.prog ⟨61,.call,(.prod (.list (.int .i64)) (.prod (.list (.int .i64)) (.prod (.int .i64) .unit))),ty1,false,true,f61nr m⟩
 | 0=>fun _ _ _ _ _ _ _=>trivial
 | m+1=>contract_at (l:=specs61n (f61nr m)) (arg:=(.prod (.list (.int .i64)) (.prod (.list (.int .i64)) (.prod (.int .i64) .unit)))) (res:=ty1) (multi:=false) (own:=true) (F:=f61nr (m+1)) mixed (all_cons (c61nr m) all_nil) Tryz.func61 rfl hints61n fun x _=>⟨fuel,e61n (f61nr m) fuel x⟩
def f61n (x:((List Int)×((List Int)×(Int×Unit)))):Out (List (List Int)):=f61nr fuel x
def sp61n:Spec:=⟨61,.call,(.prod (.list (.int .i64)) (.prod (.list (.int .i64)) (.prod (.int .i64) .unit))),ty1,false,true,f61n⟩
theorem c61n:Contract Tryz.prog sp61n:=c61nr fuel
def specs62n:List Spec:=[sp21]
def hints62n:List (Nat×List Nat):=[(2,[1,2,5]),(5,[1,2,5,6])]
def L62n_1 (N:Nat) (n_L62n_0:Nat) (n_L62n_1:Nat) (x:lt15) (i_1:Int) (k_2:Int):Out Bool :=
 vloop Tryz.prog (phi specs62n) hints62n N Tryz.f62 false false .bool [.at 1,.at 0,.at 1,.at 0,.at n_L62n_0,.at 1,.at 0,.at 0,.at 1,.at 0] n_L62n_1 [U,.d (.list (.int .i64)) x.2.1,.box [.d (.int .i64) x.1.1,.d ty0 x.1.2.1],U,U,.d (.int .i64) i_1,.d (.int .i64) k_2,U,U,U,U,U,U,U,U,U,U,U,U,U,U,U,U,U,U,U,U,U,U]
def L62n_0 (N:Nat) (n_L62n_0:Nat) (x:lt15) (i_1:Int):Out Bool :=
 vloop Tryz.prog (phi specs62n) hints62n N Tryz.f62 false false .bool [.at 1,.at 0,.at 1,.at 0] n_L62n_0 [U,.d (.list (.int .i64)) x.2.1,.box [.d (.int .i64) x.1.1,.d ty0 x.1.2.1],U,U,.d (.int .i64) i_1,U,U,U,U,U,U,U,U,U,U,U,U,U,U,U,U,U,U,U,U,U,U,U]
theorem L62n_1_succ (N:Nat) (n_L62n_0:Nat) (n_L62n_1:Nat) (x:lt15) (i_1:Int) (k_2:Int):L62n_1 N n_L62n_0 (n_L62n_1+1) x i_1 k_2 =
 (match (decide (k_2<i_1)) with|true=>bif (inb k_2 x.2.1.length) then bif (inb i_1 x.2.1.length) then match f21 (x.1,((List.getD x.2.1 k_2.toNat 0),((List.getD x.2.1 i_1.toNat 0),()))) with | .ret r_3=>(match (r_3 != 0) with|true=>.ret false|false=>L62n_1 N n_L62n_0 n_L62n_1 x i_1 (IntKind.i64.wrap (k_2+1))) | .pan p=>.pan p | .fail=>.fail else .fail else .fail|false=>L62n_0 N n_L62n_0 x (IntKind.i64.wrap (i_1+1)):Out Bool):=by kernel_rfl
theorem L62n_0_succ (N:Nat) (n_L62n_0:Nat) (x:lt15) (i_1:Int):L62n_0 N  (n_L62n_0+1) x i_1 =
 (match (decide (i_1<(lenI x.2.1))) with|true=>L62n_1 N n_L62n_0 N x i_1 0|false=>.ret true:Out Bool):=by kernel_rfl
def F62n (N:Nat) (x:lt15):Out Bool:=L62n_0 N N x 0
theorem e62n (N:Nat) (x:lt15):vfn Tryz.prog (phi specs62n) hints62n N Tryz.f62 false false ty23 .bool x=F62n N x:=by kernel_rfl
def f62n (x:lt15):Out Bool:=F62n fuel x
def sp62n:Spec:=⟨62,.call,ty23,.bool,false,false,f62n⟩
theorem c62n:Contract Tryz.prog sp62n:=contract_at (l:=specs62n) (arg:=ty23) (res:=.bool) (multi:=false) (own:=false) (F:=f62n) mixed (all_cons c21 all_nil) Tryz.func62 rfl hints62n fun x _=>⟨fuel,e62n fuel x⟩
def specs18n:List Spec:=[sp61n,sp62n]
def hints18n:List (Nat×List Nat):=[(4,[2,5,6,7]),(1000004,[6])]
def L18n_0 (N:Nat) (n_L18n_0:Nat) (x:lt15) (l_3:(List (List Int))) (out_4:(List Int)) (i_5:Int):Out (List Int) :=
 vloop Tryz.prog (phi specs18n) hints18n N Tryz.f18 false false (.list (.int .i64)) [.at 1,.at 1,.at 1,.at 0,.at 1,.at 0] n_L18n_0 [U,U,.box [.d (.int .i64) x.1.1,.d ty0 x.1.2.1],U,U,.own (.list (.int .i64)) l_3 false,.d (.list (.int .i64)) out_4,.d (.int .i64) i_5,U,U,U,U,U,U,U,U,U,U,U,U,U,U,U,U,U,U,U,U,U,U,U,U,U,U,U,U,U]
theorem L18n_0_succ (N:Nat) (n_L18n_0:Nat) (x:lt15) (l_3:(List (List Int))) (out_4:(List Int)) (i_5:Int):L18n_0 N  (n_L18n_0+1) x l_3 out_4 i_5 =
 (match (decide (i_5<(lenI l_3))) with|true=>bif (inb i_5 l_3.length) then match (decide ((lenI (List.getD l_3 i_5.toNat [])) > (lenI out_4))) with|true=>bif (inb i_5 l_3.length) then match f62n (x.1,((List.getD l_3 i_5.toNat []),())) with | .ret r_6=>(match r_6 with|true=>bif (inb i_5 l_3.length) then L18n_0 N n_L18n_0 x l_3 (List.getD l_3 i_5.toNat []) (IntKind.i64.wrap (i_5+1)) else .fail|false=>L18n_0 N n_L18n_0 x l_3 out_4 (IntKind.i64.wrap (i_5+1))) | .pan p=>.pan p | .fail=>.fail else .fail|false=>L18n_0 N n_L18n_0 x l_3 out_4 (IntKind.i64.wrap (i_5+1)) else .fail|false=>.ret out_4:Out (List Int)):=by kernel_rfl
def F18n (N:Nat) (x:lt15):Out (List Int):=match f61n ([],(x.2.1,(0,()))) with | .ret r_1=>L18n_0 N N x r_1 [] 0 | .pan p=>.pan p | .fail=>.fail
theorem e18n (N:Nat) (x:lt15):vfn Tryz.prog (phi specs18n) hints18n N Tryz.f18 false false ty23 (.list (.int .i64)) x=F18n N x:=by kernel_rfl
def f18n (x:lt15):Out (List Int):=F18n fuel x
def sp18n:Spec:=⟨18,.call,ty23,(.list (.int .i64)),false,false,f18n⟩
theorem c18n:Contract Tryz.prog sp18n:=contract_at (l:=specs18n) (arg:=ty23) (res:=(.list (.int .i64))) (multi:=false) (own:=false) (F:=f18n) mixed (all_cons c61n (all_cons c62n all_nil)) Tryz.func18 rfl hints18n fun x _=>⟨fuel,e18n fuel x⟩
end Go.V
namespace Go.V
open Go.Proofs
@[irreducible] def f16nv:lt15->Out Bool:=veil f16n
theorem f16nv_eq:f16nv=f16n:=by unfold f16nv;exact veil_eq f16n
def sp16nv:Spec:=⟨16,.call,ty23,.bool,false,false,f16nv⟩
theorem c16nv:Contract Tryz.prog sp16nv:=by
 unfold sp16nv
 rw [f16nv_eq]
 exact c16n
@[irreducible] def f18nv:lt15->Out (List Int):=veil f18n
theorem f18nv_eq:f18nv=f18n:=by unfold f18nv;exact veil_eq f18n
def sp18nv:Spec:=⟨18,.call,ty23,(.list (.int .i64)),false,false,f18nv⟩
theorem c18nv:Contract Tryz.prog sp18nv:=by
 unfold sp18nv
 rw [f18nv_eq]
 exact c18n
end Go.V
namespace Go.V
open Go.Proofs
theorem f16n_big {t:TREE} (ht:TreeOK t) (l:List Int) (hl:l.length<1000000):∃ b,f16n (t,(l,())) = .ret b/\(b=true<->HandsOK t l):=by
 have hfb:=fuel_big;have hcc:=ht.copies;unfold f16n F16n;have key:=findL (L:=fun n i=>L16n_0 fuel n (t,(l,())) i) (len:=l.length) (K:=.ret true) (fun i=>¬ HandAt t l i) (fun _=>.ret false) (fun n i hi=>?_) (fun n=>?_) l.length fuel 0 (by omega) (by omega)
 . rcases key with ⟨j,h1,h2,h3,h4,h5⟩|⟨h1,h2⟩
   . exact ⟨false,h5,⟨fun h=>(by cases h),fun h=>absurd (h j h2) h3⟩⟩
   . exact ⟨true,h2,⟨fun _=>not_all h1,fun _=>rfl⟩⟩
 . try dsimp only
   rw [L16n_0_succ]
   try delta lenI
   have ew:IntKind.i64.wrap ((t.2.1.length:Int) - 1)=(t.2.1.length:Int) - 1:=wr (by omega) (by omega);simp only [dT (show (i:Int)<l.length by omega),inbT (show (0:Int)<=i by omega) (show (i:Int)<l.length by omega),cond_true,Int.toNat_natCast,i61,ew,wn (show i<1000000000 by omega)]
   by_cases g1:1<=l.getD i 0/\l.getD i 0<=(t.2.1.length:Int) - 1
   rotate_left
   . simp only [dF g1,Bool.not_false];exact .inl ⟨fun h=>g1 ⟨h.lo,by have:=h.hi;omega⟩,trivial⟩
   simp only [dT g1,Bool.not_true]
   by_cases g3:0<i
   . have ei:IntKind.i64.wrap ((i:Int) - 1)=((i - 1:Nat):Int):=by rw [wr (by omega) (by omega)];omega
     simp only [dT (show (i:Int) > 0 by omega),ei,inbT (show (0:Int)<=((i - 1:Nat):Int) by omega) (show ((i - 1:Nat):Int)<l.length by omega),cond_true,Int.toNat_natCast]
     by_cases g4:l.getD i 0<=l.getD (i - 1) 0
     . simp only [dT g4];exact .inl ⟨fun h=>(by have:=h.up g3;omega),trivial⟩
     . simp only [dF g4];exact .inr ⟨fun h=>h ⟨g1.1,by omega,fun _=>by omega⟩,trivial⟩
   . simp only [dF (show ¬ (i:Int) > 0 by omega)];exact .inr ⟨fun h=>h ⟨g1.1,by omega,fun h2=>absurd h2 g3⟩,trivial⟩
 . try dsimp only
   rw [L16n_0_succ]
   try delta lenI
   simp only [dF (show ¬ ((l.length:Nat):Int)<l.length by omega)]
theorem f16n_yes {t:TREE} (ht:TreeOK t) {l:List Int} (h:HandsOK t l):f16n (t,(l,())) = .ret true:=by
 have hl:=hands_len h;have hs:=ht.small;obtain ⟨b,e1,e2⟩:=f16n_big ht l (by omega);rw [e1,e2.2 h]
theorem f16n_no {t:TREE} (ht:TreeOK t) {l:List Int} (hl:l.length<1000000) (h:¬ HandsOK t l):f16n (t,(l,())) = .ret false:=by
 obtain ⟨b,e1,e2⟩:=f16n_big ht l hl;cases b with
 | false=>exact e1
 | true=>exact absurd (e2.1 rfl) h
end Go.V
namespace Go.V
open Go.Proofs
structure Even (P:Int->Prop) (m:Int->Int->Bool):Prop where
 refl:∀ a,P a->m a a=true
 symm:∀ a b,P a->P b->m a b=true->m b a=true
 trans:∀ a b c,P a->P b->P c->m a b=true->m b c=true->m a c=true
def gStep (m:Int->Int->Bool) (out:List Int) (n:Int):List Int:=if out.any (m n) then out else out++[n]
def gAll (m:Int->Int->Bool) (out l:List Int):List Int:=l.foldl (gStep m) out
def Al (m:Int->Int->Bool) (s:List Int):Prop:=s.Pairwise fun a b=>m a b=false
theorem apart_is (t:TREE) (l:List Int):apartT t l=gAll (meets t) [] l:=rfl
theorem gAll_cons (m:Int->Int->Bool) (out l:List Int) (n:Int):gAll m out (n :: l)=gAll m (gStep m out n) l:=rfl
theorem gStep_sub (m:Int->Int->Bool) (out:List Int) (n:Int):List.Sublist (gStep m out n) (out++[n]):=by
 unfold gStep;split
 . exact List.sublist_append_left _ _
 . exact List.Sublist.refl _
theorem gAll_sub (m:Int->Int->Bool):∀ (l out:List Int),List.Sublist (gAll m out l) (out++l)
 | [],out=>by rw [List.append_nil];exact List.Sublist.refl _
 | n :: l,out=>by
  rw [gAll_cons];refine (gAll_sub m l _).trans ?_;rw [show out++n :: l=(out++[n])++l by simp];exact (gStep_sub m out n).append_right l
theorem gStep_has (m:Int->Int->Bool) (out:List Int) (n:Int) {x:Int} (h:x∈out):x∈gStep m out n:=by
 unfold gStep;split
 . exact h
 . exact List.mem_append_left _ h
theorem gAll_has (m:Int->Int->Bool):∀ (l out:List Int) {x:Int},x∈out->x∈gAll m out l
 | [],out,x,h=>h
 | n :: l,out,x,h=>gAll_has m l _ (gStep_has m out n h)
theorem gStep_al {P:Int->Prop} {m:Int->Int->Bool} (hm:Even P m) {out:List Int} {n:Int} (hP:∀ x∈out,P x) (hn:P n) (h:Al m out):Al m (gStep m out n):=by
 unfold gStep;split
 . exact h
 . rename_i g;refine List.pairwise_append.2 ⟨h,List.pairwise_singleton _ _,fun a ha b hb=>?_⟩;rw [List.mem_singleton.1 hb];cases e:m a n with
   | false=>rfl
   | true=>exact absurd (List.any_eq_true.2 ⟨a,ha,hm.symm a n (hP a ha) hn e⟩) g
theorem gAll_rep {P:Int->Prop} {m:Int->Int->Bool} (hm:Even P m):∀ (l out:List Int),(∀ x∈out++l,P x)->(out++l).Pairwise (· < ·)->∀ x∈out++l,∃ y∈gAll m out l,m x y=true/\y<=x
 | [],out,h1,_,x,hx=>⟨x,(by rw [List.append_nil] at hx;exact hx),hm.refl x (h1 x hx),Int.le_refl _⟩
 | n :: l,out,h1,h2,x,hx=>by
  rw [gAll_cons];have hs:List.Sublist (gStep m out n++l) (out++n :: l):=by
   rw [show out++n :: l=(out++[n])++l by simp];exact (gStep_sub m out n).append_right l
  by_cases h3:x∈gStep m out n++l
  . exact gAll_rep hm l _ (fun z hz=>h1 z (hs.subset hz)) (h2.sublist hs) x h3
  . have h4:x ∉ out:=fun h=>h3 (List.mem_append_left _ (gStep_has m out n h))
    have h5:x ∉ l:=fun h=>h3 (List.mem_append_right _ h)
    have h6:x=n:=by
     rcases List.mem_append.1 hx with h|h
     . exact absurd h h4
     . rcases List.mem_cons.1 h with h|h
       . exact h
       . exact absurd h h5
    subst h6
    by_cases g:out.any (m x)=true
    . obtain ⟨y,hy,e⟩:=List.any_eq_true.1 g;have:=(List.pairwise_append.1 h2).2.2 y hy x List.mem_cons_self;exact ⟨y,gAll_has m l _ (gStep_has m out x hy),e,by omega⟩
    . exact absurd (List.mem_append_left _ (by unfold gStep;rw [if_neg g];simp)) h3
theorem rep_len {P:Int->Prop} {m:Int->Int->Bool} (hm:Even P m):∀ (s G:List Int),(∀ x∈s,P x)->(∀ x∈G,P x)->Al m s->(∀ x∈s,∃ y∈G,m x y=true)->s.length<=G.length
 | [],G,_,_,_,_=>Nat.zero_le _
 | x :: s,G,h1,h2,h3,h4=>by
  obtain ⟨y,hy,e⟩:=h4 x List.mem_cons_self;have h5:=List.pairwise_cons.1 h3;have ih:=rep_len hm s (G.erase y) (fun z hz=>h1 z (List.mem_cons_of_mem _ hz)) (fun z hz=>h2 z (List.mem_of_mem_erase hz)) h5.2 fun z hz=>by
   obtain ⟨w,hw,e2⟩:=h4 z (List.mem_cons_of_mem _ hz);refine ⟨w,(List.mem_erase_of_ne ?_).2 hw,e2⟩;rintro rfl;have:=h5.1 z hz;have pz:=h1 z (List.mem_cons_of_mem _ hz);rw [hm.trans x w z (h1 x List.mem_cons_self) (h2 w hy) pz e (hm.symm z w pz (h2 w hy) e2)] at this
   cases this
  have h6:=List.length_erase_of_mem hy;have:0<G.length:=List.length_pos_of_mem hy;simp only [List.length_cons];omega
theorem getD_pw {R:Int->Int->Prop} {l:List Int} (h:l.Pairwise R) {i j:Nat} (h1:i<j) (h2:j<l.length):R (l.getD i 0) (l.getD j 0):=by
 have:=List.pairwise_iff_getElem.1 h i j (by omega) h2 h1
 simpa [List.getD_eq_getElem?_getD,List.getElem?_eq_getElem h2,List.getElem?_eq_getElem (show i<l.length by omega)] using this
theorem pw_getD {R:Int->Int->Prop} {l:List Int} (h:∀ i j,i<j->j<l.length->R (l.getD i 0) (l.getD j 0)):l.Pairwise R :=
 List.pairwise_iff_getElem.2 fun i j h1 h2 h3=>by
  have:=h i j h3 h2
  simpa [List.getD_eq_getElem?_getD,List.getElem?_eq_getElem h2,List.getElem?_eq_getElem h1] using this
def OneHand (t:TREE) (x:Int):Prop:=1<=x/\IsCopy t x
theorem meets_even {t:TREE} (ht:TreeOK t):Even (OneHand t) (meets t) where
 refl a ha:=by
  have:=(shared_all ht ha.2 ha.2).2.2.2 a (path_self ht ha.2.l ha.2.h) (path_self ht ha.2.l ha.2.h);exact decide_eq_true (by have:=ha.1;omega)
 symm a b ha hb h:=by unfold meets at h ⊢;rwa [shared_comm ht hb.2 ha.2]
 trans a b c ha hb hc h1 h2:=by
  have h1:sharedV t a b > 0:=of_decide_eq_true h1;have h2:sharedV t b c > 0:=of_decide_eq_true h2;obtain ⟨_,x1,x2,_⟩:=shared_all ht ha.2 hb.2;obtain ⟨_,y1,y2,_⟩:=shared_all ht hb.2 hc.2;have hz:=(shared_all ht ha.2 hc.2).2.2.2
  refine decide_eq_true ?_
  by_cases h:sharedV t a b<=sharedV t b c
  . have h3:=path_sub ht (sharedV t a b) b hb.2.l hb.2.h y1 x2 h;have h4:=path_trans ht h3 c hc.2.l hc.2.h y2;have:=hz _ x1 h4;omega
  . have h3:=path_sub ht (sharedV t b c) b hb.2.l hb.2.h x2 y1 (by omega);have h4:=path_trans ht h3 a ha.2.l ha.2.h x1;have:=hz _ h4 y2;omega
theorem hands_hand {t:TREE} {l:List Int} (h:HandsOK t l):∀ x∈l,OneHand t x:=fun x hx=>hands_mem h hx
theorem hands_up {t:TREE} {l:List Int} (h:HandsOK t l):l.Pairwise (· < ·):=by
 have:∀ d i,i+d+1<l.length->l.getD i 0<l.getD (i+d+1) 0:=by
  intro d
  induction d with
  | zero=>intro i hi;exact (h (i+1) (by omega)).up (by omega)
  | succ d ih =>
   intro i hi;have h1:=ih i (by omega);have h2:=(h (i+(d+1)+1) (by omega)).up (by omega);rw [show i+(d+1)+1 - 1=i+d+1 by omega] at h2;omega
 refine pw_getD fun i j h1 h2=>?_
 have:=this (j - i - 1) i (by omega)
 rwa [show i+(j - i - 1)+1=j by omega] at this
theorem apart_le {t:TREE} {l:List Int}:(apartT t l).length<=l.length:=by
 rw [apart_is];simpa using (gAll_sub (meets t) l []).length_le
theorem no_meet {t:TREE} (ht:TreeOK t) {a b:Int} (ha:OneHand t a) (hb:OneHand t b):meets t a b=false<->sharedV t a b=0:=by
 have:=(shared_copy ht ha.2 hb.2).l;unfold meets;rw [decide_eq_false_iff_not];omega
theorem pairsL {ρ:Type} {O:Nat->Nat->Out ρ} {I:Nat->Nat->Nat->Nat->Out ρ} {len:Nat} {K R:Out ρ} (P:Nat->Nat->Prop) (hlen:len<fuel)
 (stepO:∀ n i,i<len->O (n+1) i=I n fuel i 0) (doneO:∀ n,O (n+1) len=K)
 (stepI:∀ n n1 i k,i<len->k<i->(P i k/\I n (n1+1) i k=R)\/(¬ P i k/\I n (n1+1) i k=I n n1 i (k+1)))
 (doneI:∀ n n1 i,i<len->I n (n1+1) i i=O n (i+1)) :
 ((∃ i k,i<len/\k<i/\P i k)/\O fuel 0=R)\/((∀ i k,i<len->k<i->¬ P i k)/\O fuel 0=K):=by
 have key:=findL (L:=O) (len:=len) (K:=K) (fun i=>∃ k,k<i/\P i k) (fun _=>R) (fun n i hi=>?_) doneO len fuel 0 hlen (by omega)
 . rcases key with ⟨j,h1,h2,⟨k,h3,h4⟩,h5,h6⟩|⟨h1,h2⟩
   . exact .inl ⟨⟨j,k,h2,h3,h4⟩,h6⟩
   . exact .inr ⟨fun i k hi hk hp=>h1 i (Nat.zero_le _) hi ⟨k,hk,hp⟩,h2⟩
 . rw [stepO n i hi];rcases findL (L:=fun n1 k=>I n n1 i k) (len:=i) (K:=O n (i+1)) (fun k=>P i k) (fun _=>R) (fun n1 k hk=>stepI n n1 i k hi hk) (fun n1=>doneI n n1 i hi) i fuel 0 (by omega) (by omega) with ⟨k,h1,h2,h3,h4,h5⟩|⟨h1,h2⟩
   . exact .inl ⟨⟨k,h2,h3⟩,h5⟩
   . exact .inr ⟨fun ⟨k,hk,hp⟩=>h1 k (Nat.zero_le _) hk hp,h2⟩
end Go.V
namespace Go.V
open Go.Proofs
def specs3:List Spec:=[sp13v,sp14v,sp50v,sp17v,sp16nv,sp18nv,sp19v]
def hints3:List (Nat×List Nat):=[]
def F3 (N:Nat) (x:lt15):Out Bool:=match f13v (x.1,()) with | .ret r_1=>(match (!r_1) with|true=>(match f14v () with | .ret r=>.ret r | .pan p=>.pan p | .fail=>.fail)|false=>match (decide ((lenI x.2.1) > 10)) with|true=>(match f14v () with | .ret r=>.ret r | .pan p=>.pan p | .fail=>.fail)|false=>match f50v (x.1,(x.2.1,())) with | .ret r_7=>(match f17v (x.1,()) with | .ret r_9=>(match (!r_9) with|true=>(match (r_7.2.1==2) with|true=>(match ((lenI r_7.1)==0) with|true=>(match f14v () with | .ret r=>.ret r | .pan p=>.pan p | .fail=>.fail)|false=>.ret false)|false=>.ret false)|false=>match f16nv (x.1,(x.2.1,())) with | .ret r_13=>(match (!r_13) with|true=>(match (r_7.2.1==2) with|true=>(match ((lenI r_7.1)==0) with|true=>(match f14v () with | .ret r=>.ret r | .pan p=>.pan p | .fail=>.fail)|false=>.ret false)|false=>.ret false)|false=>match (r_7.2.1==0) with|true=>(match f18nv (x.1,(x.2.1,())) with | .ret r_17=>(match f19v (r_7.1,(r_17,())) with | .ret r_19=>(match r_19 with|true=>(match f14v () with | .ret r=>.ret r | .pan p=>.pan p | .fail=>.fail)|false=>.ret false) | .pan p=>.pan p | .fail=>.fail) | .pan p=>.pan p | .fail=>.fail)|false=>.ret false) | .pan p=>.pan p | .fail=>.fail) | .pan p=>.pan p | .fail=>.fail) | .pan p=>.pan p | .fail=>.fail) | .pan p=>.pan p | .fail=>.fail
theorem e3 (N:Nat) (x:lt15):vfn Tryz.prog (phi specs3) hints3 N Tryz.f3 false false ty23 .bool x=F3 N x:=by kernel_rfl
def f3 (x:lt15):Out Bool:=F3 fuel x
def sp3:Spec:=⟨3,.call,ty23,.bool,false,false,f3⟩
theorem c3:Contract Tryz.prog sp3:=contract_at (l:=specs3) (arg:=ty23) (res:=.bool) (multi:=false) (own:=false) (F:=f3) mixed (all_cons c13v (all_cons c14v (all_cons c50v (all_cons c17v (all_cons c16nv (all_cons c18nv (all_cons c19v all_nil))))))) Tryz.func3 rfl hints3 fun x _=>⟨fuel,e3 fuel x⟩
end Go.V
namespace Go.V
open Go.Proofs
def restC (now:List Int):List Int->List (List Int)
 | []=>[]
 | x :: rest=>(now++[x]) :: restC (now++[x]) rest++restC now rest
def chosenC (now rest:List Int):List (List Int):=now :: restC now rest
theorem restC_cons (now:List Int) (x:Int) (rest:List Int):restC now (x :: rest)=chosenC (now++[x]) rest++restC now rest:=rfl
theorem restC_len:∀ (rest now:List Int),(restC now rest).length+1=2 ^ rest.length
 | [],now=>rfl
 | x :: rest,now=>by
  have h1:=restC_len rest now;have h2:=restC_len rest (now++[x]);simp only [restC,List.length_append,List.length_cons,Nat.pow_succ];omega
theorem restC_pre:∀ (rest now:List Int),∀ s∈restC now rest,∃ u,s=now++u/\∀ x∈u,x∈rest
 | [],now,s,h=>by cases h
 | x :: rest,now,s,h=>by
  rw [restC_cons] at h;rcases List.mem_append.1 h with h|h
  . rcases List.mem_cons.1 h with rfl|h
    . exact ⟨[x],rfl,fun y hy=>by rw [List.mem_singleton.1 hy];exact List.mem_cons_self⟩
    . obtain ⟨u,e,hu⟩:=restC_pre rest _ s h;refine ⟨x :: u,by rw [e];simp,fun y hy=>?_⟩;rcases List.mem_cons.1 hy with rfl|hy
      . exact List.mem_cons_self
      . exact List.mem_cons_of_mem _ (hu y hy)
  . obtain ⟨u,e,hu⟩:=restC_pre rest _ s h;exact ⟨u,e,fun y hy=>List.mem_cons_of_mem _ (hu y hy)⟩
noncomputable instance alDec (m:Int->Int->Bool) (s:List Int):Decidable (Al m s):=Classical.propDecidable _
def longer (m:Int->Int->Bool) (out s:List Int):List Int:=if s.length > out.length/\Al m s then s else out
theorem fold_stay {m:Int->Int->Bool} {out:List Int}:∀ (ls:List (List Int)),(∀ s∈ls,Al m s->s.length<=out.length)->ls.foldl (longer m) out=out
 | [],_=>rfl
 | s :: ls,h=>by
  have e:longer m out s=out:=by unfold longer;exact if_neg fun ⟨h1,h2⟩=>by have:=h s List.mem_cons_self h2;omega
  rw [List.foldl_cons,e];exact fold_stay ls fun z hz=>h z (List.mem_cons_of_mem _ hz)
theorem al_step {P:Int->Prop} {m:Int->Int->Bool} (hm:Even P m) {now:List Int} {x:Int} (hP:∀ y∈now,P y) (hx:P x) (h:Al m now):Al m (now++[x])<->¬ now.any (m x)=true:=by
 constructor
 . intro h2 h3;obtain ⟨y,hy,e⟩:=List.any_eq_true.1 h3;have:=(List.pairwise_append.1 h2).2.2 y hy x (List.mem_singleton.2 rfl);rw [hm.symm x y hx (hP y hy) e] at this;cases this
 . intro h2;have:=gStep_al hm (n:=x) hP hx h;unfold gStep at this
   rwa [if_neg h2] at this
theorem fold_best {P:Int->Prop} {m:Int->Int->Bool} (hm:Even P m):∀ (rest now:List Int),(∀ x∈now++rest,P x)->(now++rest).Pairwise (· < ·)->Al m now->(restC now rest).foldl (longer m) now=gAll m now rest
 | [],now,_,_,_=>rfl
 | x :: rest,now,hP,hu,ha=>by
  have hs:List.Sublist (now++rest) (now++x :: rest):=(List.sublist_cons_self x rest).append_left now;have hs2:(now++[x])++rest=now++x :: rest:=by simp
  have hPn:∀ y∈now,P y:=fun y hy=>hP y (List.mem_append_left _ hy)
  have hPx:P x:=hP x (by simp);have ih:=fold_best hm rest now (fun y hy=>hP y (hs.subset hy)) (hu.sublist hs) ha;rw [restC_cons,List.foldl_append]
  by_cases g:now.any (m x)=true
  . have hn:¬ Al m (now++[x]):=fun h=>(al_step hm hPn hPx ha).1 h g
    rw [fold_stay (chosenC (now++[x]) rest) fun s hs3 ha2=>?_,ih,gAll_cons]
    . unfold gStep;rw [if_pos g]
    . exfalso;rcases List.mem_cons.1 hs3 with rfl|hs3
      . exact hn ha2
      . obtain ⟨u,e,_⟩:=restC_pre rest _ s hs3;rw [e] at ha2;exact hn (List.pairwise_append.1 ha2).1
  . have hy:=(al_step hm hPn hPx ha).2 g;have ih2:=fold_best hm rest (now++[x]) (by rw [hs2];exact hP) (by rw [hs2];exact hu) hy;have e1:longer m now (now++[x])=now++[x]:=by unfold longer;exact if_pos ⟨by simp,hy⟩
    rw [show (chosenC (now++[x]) rest).foldl (longer m) now=(restC (now++[x]) rest).foldl (longer m) (longer m now (now++[x])) from rfl,e1,ih2];have e2:gAll m now (x :: rest)=gAll m (now++[x]) rest:=by rw [gAll_cons];unfold gStep;rw [if_neg g]
    rw [e2];refine fold_stay _ fun s hs3 ha2=>?_
    obtain ⟨u,e,hu2⟩:=restC_pre rest now s hs3;have hin:∀ y∈s,y∈now++x :: rest:=fun y hy=>by
     rw [e] at hy;rcases List.mem_append.1 hy with h|h
     . exact List.mem_append_left _ h
     . exact List.mem_append_right _ (List.mem_cons_of_mem _ (hu2 y h))
    refine rep_len hm s _ (fun y hy=>hP y (hin y hy)) (fun y hy=>hP y (by rw [<- hs2];exact (gAll_sub m rest (now++[x])).subset hy)) ha2 fun y hy=>?_
    obtain ⟨z,h1,h2,_⟩:=gAll_rep hm rest (now++[x]) (by rw [hs2];exact hP) (by rw [hs2];exact hu) y (by rw [hs2];exact hin y hy);exact ⟨z,h1,h2⟩
theorem chosen_best {P:Int->Prop} {m:Int->Int->Bool} (hm:Even P m) {l:List Int} (hP:∀ x∈l,P x) (hu:l.Pairwise (· < ·)):(chosenC [] l).foldl (longer m) []=gAll m [] l:=by
 have e:longer m [] []=[]:=by unfold longer;split<;>rfl
 have h:=fold_best hm l [] (by simpa using hP) (by simpa using hu) List.Pairwise.nil;rw [show (chosenC [] l).foldl (longer m) []=(restC [] l).foldl (longer m) (longer m [] []) from rfl,e,h]
theorem f62n_at {t:TREE} (ht:TreeOK t) {s:List Int} (hs:∀ x∈s,OneHand t x) (hl:s.length<1000000):f62n (t,(s,())) = .ret (decide (Al (meets t) s)):=by
 have hfb:=fuel_big;unfold f62n F62n;have hg:∀ i,i<s.length->OneHand t (s.getD i 0):=fun i hi=>hs _ (getD_mem hi)
 have key:=pairsL (O:=fun n i=>L62n_0 fuel n (t,(s,())) i) (I:=fun n n1 i k=>L62n_1 fuel n n1 (t,(s,())) i k) (len:=s.length) (K:=.ret true) (R:=.ret false)
  (fun i k=>sharedV t (s.getD k 0) (s.getD i 0)≠0) (by omega) (fun n i hi=>?_) (fun n=>?_) (fun n n1 i k hi hk=>?_) (fun n n1 i hi=>?_)
 . rcases key with ⟨⟨i,k,h1,h2,h3⟩,e⟩|⟨h1,e⟩
   . rw [decide_eq_false (show ¬ Al (meets t) s from fun h=>h3 ((no_meet ht (hg k (by omega)) (hg i h1)).1 (getD_pw h h2 h1)))];exact e
   . rw [decide_eq_true (show Al (meets t) s from pw_getD fun i j hij hj=>(no_meet ht (hg i (by omega)) (hg j hj)).2 (Classical.byContradiction (h1 j i hj hij)))];exact e
 . rw [L62n_0_succ]
   try delta lenI
   simp only [dT (show (i:Int)<s.length by omega)];rfl
 . rw [L62n_0_succ]
   try delta lenI
   simp only [dF (show ¬ ((s.length:Nat):Int)<s.length by omega)]
 . try dsimp only
   rw [L62n_1_succ];simp only [dT (show (k:Int)<i by omega),inbT (show (0:Int)<=i by omega) (show (i:Int)<s.length by omega),inbT (show (0:Int)<=k by omega) (show (k:Int)<s.length by omega),cond_true,Int.toNat_natCast,f21_at ht (hg k (by omega)).2 (hg i hi).2,wn (show k<1000000000 by omega)]
   by_cases g:sharedV t (s.getD k 0) (s.getD i 0)=0
   . rw [g];simp only [n00];exact .inr ⟨fun h=>h rfl,trivial⟩
   . simp only [show (sharedV t (s.getD k 0) (s.getD i 0) != 0)=true from bne_iff_ne.2 g];exact .inl ⟨g,trivial⟩
 . try dsimp only
   rw [L62n_1_succ];simp only [dF (show ¬ ((i:Nat):Int)<i by omega),wn (show i<1000000000 by omega)]
theorem f61nr_at {l:List Int} (hl:l.length<=10):∀ (d m:Nat) (now:List Int) (i:Nat),d<m->i+d=l.length->now.length<=i->f61nr m (now,(l,((i:Int),()))) = .ret (chosenC now (l.drop i))
 | d,0,now,i,h,_,_=>by omega
 | d,m+1,now,i,h1,h2,h3=>by
  have hfb:=fuel_big;show F61n (f61nr m) fuel (now,(l,((i:Int),())))=_;unfold F61n;have hlen:∀ j,(restC now (l.drop j)).length<2 ^ 10:=fun j=>by
   have h4:=restC_len (l.drop j) now;have h5:2 ^ (l.drop j).length<=2 ^ 10:=Nat.pow_le_pow_right (by decide) (by rw [List.length_drop];omega);omega
  have go:∀ (d2 n j:Nat) (out:List (List Int)),d2<n->j+d2=l.length->i<=j->out.length<=1024 * j+1->L61n_0 (f61nr m) fuel n (now,(l,((i:Int),()))) out j = .ret (out++restC now (l.drop j)):=by
   intro d2
   induction d2 with
   | zero =>
    intro n j out h4 h5 h6 _;obtain ⟨n,rfl⟩:=succ_of h4;rw [L61n_0_succ];have:j=l.length:=by omega
    subst this;simp only [show (lenI l)=(l.length:Int) from rfl,dF (show ¬ ((l.length:Nat):Int)<l.length by omega),List.drop_length,restC,List.append_nil]
   | succ d2 ih =>
    intro n j out h4 h5 h6 h7;obtain ⟨n,rfl⟩:=succ_of (show 0<n by omega);rw [L61n_0_succ];have hj:j<l.length:=by omega
    have ed:l.drop j=l.getD j 0 :: l.drop (j+1):=by
     rw [List.drop_eq_getElem_cons hj,List.getD_eq_getElem?_getD,List.getElem?_eq_getElem hj];rfl
    have e1:=f61nr_at hl (d2) m (now++[l.getD j 0]) (j+1) (by omega) (by omega) (by simp;omega);have hc:(chosenC (now++[l.getD j 0]) (l.drop (j+1))).length<=1024:=by
     have h8:=restC_len (l.drop (j+1)) (now++[l.getD j 0]);have h9:2 ^ (l.drop (j+1)).length<=2 ^ 10:=Nat.pow_le_pow_right (by decide) (by rw [List.length_drop];omega);unfold chosenC;rw [List.length_cons];omega
    simp only [show (lenI l)=(l.length:Int) from rfl,dT (show (j:Int)<l.length by omega),inbT (show (0:Int)<=j by omega) (show (j:Int)<l.length by omega),cond_true,Int.toNat_natCast,wn (show j<1000000000 by omega),fitsT (xs:=([]:List Int)) (ys:=now) (by simp;omega),fitsT (xs:=now) (ys:=[l.getD j 0]) (by simp;omega),e1,fitsT (xs:=out) (ys:=chosenC (now++[l.getD j 0]) (l.drop (j+1))) (by omega)]
    rw [ih n (j+1) _ (by omega) (by omega) (by omega) (by rw [List.length_append];omega),ed,restC_cons,List.append_assoc]
  exact go d fuel i [now] (by omega) h2 (Nat.le_refl _) (by simp)
theorem chosen_in:∀ {l s:List Int},s∈chosenC [] l->∀ x∈s,x∈l:=fun {l s} h x hx=>by
 rcases List.mem_cons.1 h with rfl|h
 . cases hx
 . obtain ⟨u,e,hu⟩:=restC_pre l [] s h;rw [e] at hx;exact hu x (by simpa using hx)
theorem chosen_lens:∀ (rest now:List Int),∀ s∈restC now rest,s.length<=now.length+rest.length
 | [],now,s,h=>by cases h
 | x :: rest,now,s,h=>by
  rw [restC_cons] at h;rcases List.mem_append.1 h with h|h
  . rcases List.mem_cons.1 h with rfl|h
    . simp
    . have:=chosen_lens rest _ s h;simp at this ⊢;omega
  . have:=chosen_lens rest now s h;simp at this ⊢;omega
theorem f18n_at {t:TREE} (ht:TreeOK t) {l:List Int} (h:HandsOK t l):f18n (t,(l,())) = .ret (apartT t l):=by
 have hfb:=fuel_big;have hcc:=ht.copies;have hll:=hands_len h;unfold f18n F18n;have e1:f61n ([],(l,((0:Int),()))) = .ret (chosenC [] l):=f61nr_at (l:=l) (by omega) l.length fuel [] 0 (by omega) (by omega) (Nat.zero_le _)
 simp only [e1];have hcl:(chosenC [] l).length<1000000:=by
  have h8:=restC_len l [];have h9:2 ^ l.length<=2 ^ 10:=Nat.pow_le_pow_right (by decide) (by omega);unfold chosenC;rw [List.length_cons];omega
 have hsl:∀ s∈chosenC [] l,s.length<1000000:=fun s hs=>by
  rcases List.mem_cons.1 hs with rfl|hs
  . simp
  . have:=chosen_lens l [] s hs;simp at this;omega
 have key:=runL (L:=fun n k=>L18n_0 fuel n (t,(l,())) (chosenC [] l) (((chosenC [] l).take k).foldl (longer (meets t)) []) k) (len:=(chosenC [] l).length) (K:=.ret (apartT t l)) (fun n k hk=>?_) (fun n=>?_) (chosenC [] l).length fuel 0 (by omega) (by omega)
 . exact key
 . try dsimp only
   rw [L18n_0_succ]
   try delta lenI
   have es:((chosenC [] l).take (k+1)).foldl (longer (meets t)) []=longer (meets t) (((chosenC [] l).take k).foldl (longer (meets t)) []) ((chosenC [] l).getD k []):=by rw [take_snoc [] hk,List.foldl_append];rfl
   have hm:(chosenC [] l).getD k []∈chosenC [] l:=getD_mem hk;rw [es]
   try delta lenI
   generalize ((chosenC [] l).take k).foldl (longer (meets t)) []=out;simp only [dT (show (k:Int)<(chosenC [] l).length by omega),inbT (show (0:Int)<=k by omega) (show (k:Int)<(chosenC [] l).length by omega),cond_true,Int.toNat_natCast,wn (show k<1000000000 by omega),f62n_at ht (fun x hx=>hands_hand h x (chosen_in hm x hx)) (hsl _ hm)]
   unfold longer
   by_cases g:((chosenC [] l).getD k []).length > out.length
   . simp only [dT (show (((chosenC [] l).getD k []).length:Int) > out.length by omega)]
     by_cases g2:Al (meets t) ((chosenC [] l).getD k [])
     . rw [dT g2,if_pos ⟨g,g2⟩]
     . rw [dF g2,if_neg fun h=>g2 h.2]
   . simp only [dF (show ¬ (((chosenC [] l).getD k []).length:Int) > out.length by omega)];rw [if_neg fun h=>g h.1]
 . try dsimp only
   rw [L18n_0_succ]
   try delta lenI
   simp only [dF (show ¬ (((chosenC [] l).length:Nat):Int)<(chosenC [] l).length by omega),List.take_length,chosen_best (meets_even ht) (hands_hand h) (hands_up h),apart_is]
theorem law3 (t:TREE) (l:List Int):f3 (t,(l,())) = .ret true:=by
 show F3 fuel (t,(l,()))=_;unfold F3;obtain ⟨c,h13⟩:=f13_at t;simp only [f13v_eq,f50v_eq,f17v_eq,f16nv_eq,f18nv_eq,f19v_eq,h13];cases c with
 | false=>simp only [nf,known_true]
 | true =>
 simp only [nt]
 by_cases hl:lenI l > 10
 . simp only [dT hl,known_true]
 have hll:l.length<1000000:=by have h2:¬ ((l.length:Int) > 10):=hl;omega
 simp only [dF hl]
 by_cases ht:TreeOK t
 rotate_left
 . simp only [f50_no (t:=t) hll fun h=>ht h.1,no17 ht,nf,b22,bl0,known_true]
 by_cases hh:HandsOK t l
 rotate_left
 . simp only [f50_no (t:=t) hll fun h=>hh h.2,ht.t17,nt,f16n_no ht hll hh,nf,b22,bl0,known_true]
 have hal:=apart_le (t:=t) (l:=l);simp only [f50_at ht hh,ht.t17,f16n_yes ht hh,nt,b00,f18n_at ht hh,f19_at (apartT t l) (apartT t l) (show (apartT t l).length<1000000 by omega),decide_true,known_true]
end Go.V
end
