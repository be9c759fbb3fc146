/- What law 3 of the copies needs beyond what all laws need: functions read, and the plain law. -/
import Derived.Test.YtmkbnifehdhbbaaGreatDoorQL
import Derived.Test.YtmkbnifehdhbbaaGreatDoorCR2
import Derived.Test.YtmkbnifehdhbbaaGreatDoorCRA
set_option linter.all false
noncomputable section
namespace Go.V
open Go.Proofs
def specs13:List Spec:=[]
def hints13:List (Nat×List Nat):=[(2,[1,3])]
def L13_0 (N:Nat) (n_L13_0:Nat) (x:lt1) (i_1:Int):Out Bool :=
 vloop Tryz.prog (phi specs13) hints13 N Tryz.f13 false false .bool [.at 1,.at 0,.at 1,.at 0] n_L13_0 [U,.box [.d (.int .i64) x.1.1,.d ty0 x.1.2.1],U,.d (.int .i64) i_1,U,U,U,U,U,U,U,U,U,U,U,U,U,U,U,U,U,U,U,U,U,U,U]
theorem L13_0_succ (N:Nat) (n_L13_0:Nat) (x:lt1) (i_1:Int):L13_0 N  (n_L13_0+1) x i_1 =
 (match (decide (i_1<(lenI x.1.2.1))) with|true=>(match (decide (i_1<10)) with|true=>bif (inb i_1 x.1.2.1.length) then match (decide ((lenI ((List.getD x.1.2.1 i_1.toNat (0,([],())))).2.1) > 5)) with|true=>.ret false|false=>L13_0 N n_L13_0 x (IntKind.i64.wrap (i_1+1)) else .fail|false=>.ret (decide ((lenI x.1.2.1)<=10)))|false=>.ret (decide ((lenI x.1.2.1)<=10)):Out Bool):=by kernel_rfl
def F13 (N:Nat) (x:lt1):Out Bool:=L13_0 N N x 0
theorem e13 (N:Nat) (x:lt1):vfn Tryz.prog (phi specs13) hints13 N Tryz.f13 false false ty2 .bool x=F13 N x:=by kernel_rfl
def f13 (x:lt1):Out Bool:=F13 fuel x
def sp13:Spec:=⟨13,.call,ty2,.bool,false,false,f13⟩
theorem c13:Contract Tryz.prog sp13:=contract_at (l:=specs13) (arg:=ty2) (res:=.bool) (multi:=false) (own:=false) (F:=f13) mixed all_nil Tryz.func13 rfl hints13 fun x _=>⟨fuel,e13 fuel x⟩
def specs20 (g:lt4->Out (List Int)):List Spec:=[⟨20,.call,ty6,(.list (.int .i64)),false,true,g⟩]
def hints20:List (Nat×List Nat):=[]
def F20 (g:lt4->Out (List Int)) (N:Nat) (x:lt4):Out (List Int):=match (x.2.1==0) with|true=>.ret ([0]:List Int)|false=>bif (inb x.2.1 x.1.2.1.length) then match g (x.1,(((List.getD x.1.2.1 x.2.1.toNat (0,([],())))).1,())) with | .ret r_1=>bif (fits ([x.2.1]:List Int) r_1) then .ret (([x.2.1]:List Int)++r_1) else .fail | .pan p=>.pan p | .fail=>.fail else .fail
theorem e20 (g:lt4->Out (List Int)) (N:Nat) (x:lt4):vfn Tryz.prog (phi (specs20 g)) hints20 N Tryz.f20 false true ty6 (.list (.int .i64)) x=F20 g N x:=by kernel_rfl
def f20r:Nat->lt4->Out (List Int)
 | 0,_=>.fail
 | m+1,x=>F20 (f20r m) fuel x
theorem c20r:∀ m,Contract Tryz.prog ⟨20,.call,ty6,(.list (.int .i64)),false,true,f20r m⟩
 | 0=>fun _ _ _ _ _ _ _=>trivial
 | m+1=>contract_at (l:=specs20 (f20r m)) (arg:=ty6) (res:=(.list (.int .i64))) (multi:=false) (own:=true) (F:=f20r (m+1)) mixed (all_cons (c20r m) all_nil) Tryz.func20 rfl hints20 fun x _=>⟨fuel,e20 (f20r m) fuel x⟩
def f20 (x:lt4):Out (List Int):=f20r fuel x
def sp20:Spec:=⟨20,.call,ty6,(.list (.int .i64)),false,true,f20⟩
theorem c20:Contract Tryz.prog sp20:=c20r fuel
def specs23:List Spec:=[]
def hints23:List (Nat×List Nat):=[(2,[0,1,5])]
def L23_0 (N:Nat) (n_L23_0:Nat) (x:lt2) (i_1:Int):Out Bool :=
 vloop Tryz.prog (phi specs23) hints23 N Tryz.f23 false false .bool [.at 1,.at 0,.at 1,.at 0] n_L23_0 [.d (.list (.int .i64)) x.1,.d (.int .i64) x.2.1,U,U,U,.d (.int .i64) i_1,U,U,U,U,U,U,U,U,U,U,U,U]
theorem L23_0_succ (N:Nat) (n_L23_0:Nat) (x:lt2) (i_1:Int):L23_0 N  (n_L23_0+1) x i_1 =
 (match (decide (i_1<(lenI x.1))) with|true=>bif (inb i_1 x.1.length) then match ((List.getD x.1 i_1.toNat 0)==x.2.1) with|true=>.ret true|false=>L23_0 N n_L23_0 x (IntKind.i64.wrap (i_1+1)) else .fail|false=>.ret false:Out Bool):=by kernel_rfl
def F23 (N:Nat) (x:lt2):Out Bool:=L23_0 N N x 0
theorem e23 (N:Nat) (x:lt2):vfn Tryz.prog (phi specs23) hints23 N Tryz.f23 false false ty3 .bool x=F23 N x:=by kernel_rfl
def f23 (x:lt2):Out Bool:=F23 fuel x
def sp23:Spec:=⟨23,.call,ty3,.bool,false,false,f23⟩
theorem c23:Contract Tryz.prog sp23:=contract_at (l:=specs23) (arg:=ty3) (res:=.bool) (multi:=false) (own:=false) (F:=f23) mixed all_nil Tryz.func23 rfl hints23 fun x _=>⟨fuel,e23 fuel x⟩
def specs61:List Spec:=[]
def hints61:List (Nat×List Nat):=[]
theorem e61 (N:Nat) (x:(Int×(Int×(Int×Unit)))):vfn Tryz.prog (phi specs61) hints61 N Tryz.f61 false false ty10 .bool x=F61 N x:=by kernel_rfl
theorem c61:Contract Tryz.prog sp61:=contract_at (l:=specs61) (arg:=ty10) (res:=.bool) (multi:=false) (own:=false) (F:=f61) mixed all_nil Tryz.func61 rfl hints61 fun x _=>⟨fuel,e61 fuel x⟩
def specs18:List Spec:=[sp61]
def hints18:List (Nat×List Nat):=[]
def F18 (N:Nat) (x:lt4):Out Bool:=match f61 (x.2.1,(0,((IntKind.i64.wrap ((lenI x.1.2.1) - 1)),()))) with | .ret r=>.ret r | .pan p=>.pan p | .fail=>.fail
theorem e18 (N:Nat) (x:lt4):vfn Tryz.prog (phi specs18) hints18 N Tryz.f18 false false ty6 .bool x=F18 N x:=by kernel_rfl
def f18 (x:lt4):Out Bool:=F18 fuel x
def sp18:Spec:=⟨18,.call,ty6,.bool,false,false,f18⟩
theorem c18:Contract Tryz.prog sp18:=contract_at (l:=specs18) (arg:=ty6) (res:=.bool) (multi:=false) (own:=false) (F:=f18) mixed (all_cons c61 all_nil) Tryz.func18 rfl hints18 fun x _=>⟨fuel,e18 fuel x⟩
def specs21:List Spec:=[sp20,sp23]
def hints21:List (Nat×List Nat):=[(4,[7,8,9,10])]
def L21_0 (N:Nat) (n_L21_0:Nat) (a_5:(List Int)) (b_6:(List Int)) (n_7:Int) (i_8:Int):Out Int :=
 vloop Tryz.prog (phi specs21) hints21 N Tryz.f21 false false (.int .i64) [.at 1,.at 1,.at 1,.at 0,.at 1,.at 0] n_L21_0 [U,U,U,U,U,U,U,.own (.int .i64) a_5 false,.own (.int .i64) b_6 false,.d (.int .i64) n_7,.d (.int .i64) i_8,U,U,U,U,U,U,U,U,U,U,U,U,U,U,U,U,U,U,U,U,U,U,U,U,U]
theorem L21_0_succ (N:Nat) (n_L21_0:Nat) (a_5:(List Int)) (b_6:(List Int)) (n_7:Int) (i_8:Int):L21_0 N  (n_L21_0+1) a_5 b_6 n_7 i_8 =
 (match (decide (i_8<(lenI a_5))) with|true=>bif (inb i_8 a_5.length) then match f23 (b_6,((List.getD a_5 i_8.toNat 0),())) with | .ret r_9=>(match r_9 with|true=>bif (inb i_8 a_5.length) then L21_0 N n_L21_0 a_5 b_6 (if (List.getD a_5 i_8.toNat 0) > n_7 then (List.getD a_5 i_8.toNat 0) else n_7) (IntKind.i64.wrap (i_8+1)) else .fail|false=>L21_0 N n_L21_0 a_5 b_6 n_7 (IntKind.i64.wrap (i_8+1))) | .pan p=>.pan p | .fail=>.fail else .fail|false=>.ret n_7:Out Int):=by kernel_rfl
def F21 (N:Nat) (x:lt6):Out Int:=match f20 (x.1,(x.2.1,())) with | .ret r_1=>(match f20 (x.1,(x.2.2.1,())) with | .ret r_3=>L21_0 N N r_1 r_3 0 0 | .pan p=>.pan p | .fail=>.fail) | .pan p=>.pan p | .fail=>.fail
theorem e21 (N:Nat) (x:lt6):vfn Tryz.prog (phi specs21) hints21 N Tryz.f21 false false ty9 (.int .i64) x=F21 N x:=by kernel_rfl
def f21 (x:lt6):Out Int:=F21 fuel x
def sp21:Spec:=⟨21,.call,ty9,(.int .i64),false,false,f21⟩
theorem c21:Contract Tryz.prog sp21:=contract_at (l:=specs21) (arg:=ty9) (res:=(.int .i64)) (multi:=false) (own:=false) (F:=f21) mixed (all_cons c20 (all_cons c23 all_nil)) Tryz.func21 rfl hints21 fun x _=>⟨fuel,e21 fuel x⟩
def specs46:List Spec:=[sp61]
def hints46:List (Nat×List Nat):=[]
theorem e46 (N:Nat) (x:(Int×Unit)):vfn Tryz.prog (phi specs46) hints46 N Tryz.f46 false false (.prod (.int .i64) .unit) .bool x=F46 N x:=by kernel_rfl
theorem c46:Contract Tryz.prog sp46:=contract_at (l:=specs46) (arg:=(.prod (.int .i64) .unit)) (res:=.bool) (multi:=false) (own:=false) (F:=f46) mixed (all_cons c61 all_nil) Tryz.func46 rfl hints46 fun x _=>⟨fuel,e46 fuel x⟩
theorem e17 (N:Nat) (x:lt1):vfn Tryz.prog (phi specs17) hints17 N Tryz.f17 false false ty2 .bool x=F17 N x:=by kernel_rfl
def sp17:Spec:=⟨17,.call,ty2,.bool,false,false,f17⟩
theorem c17:Contract Tryz.prog sp17:=contract_at (l:=specs17) (arg:=ty2) (res:=.bool) (multi:=false) (own:=false) (F:=f17) mixed (all_cons c61 (all_cons c46 all_nil)) Tryz.func17 rfl hints17 fun x _=>⟨fuel,e17 fuel x⟩
end Go.V
namespace Go.V
open Go.Proofs
theorem f23_at (l:List Int) (x:Int) (h:l.length<1000000):f23 (l,(x,())) = .ret (decide (x∈l)):=by
 have hfb:=fuel_big
 unfold f23 F23
 have key:=findL (L:=fun n i=>L23_0 fuel n (l,(x,())) i) (len:=l.length) (K:=.ret false) (fun i=>l.getD i 0=x) (fun _=>.ret true) (fun n i hi=>?_) (fun n=>?_) l.length fuel 0 (by omega) (by omega)
 . rcases key with ⟨j,h1,h2,h3,h4,h5⟩|⟨h1,h2⟩
   . rw [show L23_0 fuel fuel (l,(x,())) 0=_ from h5,dT (show x∈l by rw [<- h3];exact getD_mem h2)]
   . rw [show L23_0 fuel fuel (l,(x,())) 0=_ from h2,dF fun hm=>?_]
     obtain ⟨i,hi,he⟩:=mem_getD hm
     exact h1 i (Nat.zero_le _) hi he
 . try dsimp only
   rw [L23_0_succ]
   try delta lenI
   simp only [dT (show (i:Int)<l.length by omega),inbT (show (0:Int)<=i by omega) (show (i:Int)<l.length by omega),cond_true,Int.toNat_natCast,wn (show i<1000000000 by omega)]
   by_cases g:l.getD i 0=x
   . simp only [eT g];exact .inl ⟨g,trivial⟩
   . simp only [eF g];exact .inr ⟨g,trivial⟩
 . try dsimp only
   rw [L23_0_succ]
   try delta lenI
   simp only [dF (show ¬ ((l.length:Nat):Int)<l.length by omega)]
theorem f13_at (t:TREE):∃ b,f13 (t,()) = .ret b:=by
 have hfb:=fuel_big
 unfold f13 F13
 have done:∀ n i:Nat,¬ (i:Int)<t.2.1.length\/¬ i<10->∃ b,L13_0 fuel (n+1) (t,()) i = .ret b:=fun n i h=>by
  rw [L13_0_succ]
  try delta lenI
  by_cases h1:(i:Int)<t.2.1.length
  . have h2:¬ (i:Int)<10:=by rcases h with h|h<;>omega
    simp only [dT h1,dF h2]
    exact ⟨_,rfl⟩
  . simp only [dF h1]
    exact ⟨_,rfl⟩
 have loop:∀ (d n i:Nat),d<n->i+d=10->∃ b,L13_0 fuel n (t,()) i = .ret b:=by
  intro d
  induction d with
  | zero =>
   intro n i hn hi
   obtain ⟨n,rfl⟩:=succ_of hn
   exact done n i (.inr (by omega))
  | succ d ih =>
   intro n i hn hi
   obtain ⟨n,rfl⟩:=succ_of hn
   by_cases h1:(i:Int)<t.2.1.length
   . rw [L13_0_succ]
     try delta lenI
     simp only [dT h1,dT (show (i:Int)<10 by omega),inbT (show (0:Int)<=i by omega) h1,cond_true,wn (show i<1000000000 by omega)]
     split
     . exact ⟨_,rfl⟩
     . exact ih n (i+1) (by omega) (by omega)
   . exact done n i (.inl h1)
 exact loop 10 fuel 0 (by omega) (by omega)
theorem f18_at {t:TREE} (n:Int) (h:t.2.1.length<1000000):f18 (t,(n,())) = .ret (decide (0<=n/\n<t.2.1.length)):=by
 unfold f18 F18
 try delta lenI
 simp only [i61]
 rw [wr (by omega) (by omega)]
 by_cases h1:0<=n/\n<t.2.1.length
 . rw [dT h1,dT (by omega)]
 . rw [dF h1,dF (by omega)]
theorem f20r_at {t:TREE} (ht:TreeOK t):∀ (m:Nat) (n:Int),n<m->0<=n->n<t.2.1.length->f20r m (t,(n,())) = .ret (pathV t n)
 | 0,n,h,h0,h1=>by omega
 | m+1,n,h,h0,h1=>by
  show F20 (f20r m) fuel (t,(n,()))=_
  unfold F20
  by_cases e:n=0
  . subst e
    rfl
  . have hu:=up_in ht (n:=n) (by omega) h1
    have hl:=path_len ht hu.1 hu.2.2
    have hc:=ht.copies
    have ih:=f20r_at ht m (parentAt t n.toNat) (by omega) hu.1 hu.2.2
    have ih':f20r m (t,((t.2.1.getD n.toNat ((0:Int),(([]:List Int),()))).1,())) = .ret (pathV t (parentAt t n.toNat)):=ih
    rw [path_up ht (n:=n) (by omega) h1]
    simp only [eF e,inbT h0 h1,cond_true,ih',fitsT (xs:=[n]) (ys:=pathV t (parentAt t n.toNat)) (by simp;omega)]
    rfl
theorem f20_at {t:TREE} (ht:TreeOK t) {n:Int} (h0:0<=n) (h1:n<t.2.1.length):f20 (t,(n,())) = .ret (pathV t n):=f20r_at ht fuel n (by have:=fuel_big;have:=ht.copies;omega) h0 h1
theorem f15_no {t:TREE} {n:Int} (h:¬ (TreeOK t/\0<=n/\n<t.2.1.length)):f15 (t,(n,())) = .ret ([],(2,())):=by
 obtain ⟨b,e1,e2,e3⟩:=tree_at t
 unfold f15 F15
 cases b with
 | false=>simp only [e2,Bool.not_false];rfl
 | true =>
  have ht:=e3.1 rfl
  have hc:=ht.copies
  simp only [e2,f56_at n (show t.2.1.length<1000000 by omega),dF (show ¬ (0<=n/\n<(t.2.1.length:Int)) from fun h2=>h ⟨ht,h2⟩),Bool.not_true,Bool.not_false]
  rfl
theorem f16_no {t:TREE} {a b:Int} (h:¬ (TreeOK t/\IsCopy t a/\IsCopy t b)):f16 (t,(a,(b,()))) = .ret (0,(2,())):=by
 obtain ⟨c,e1,e2,e3⟩:=tree_at t
 unfold f16 F16
 cases c with
 | false=>simp only [e2,Bool.not_false]
 | true =>
  have ht:=e3.1 rfl
  have hc:=ht.copies
  simp only [e2,f56_at _ (show t.2.1.length<1000000 by omega),Bool.not_true]
  by_cases h1:0<=a/\a<(t.2.1.length:Int)
  . simp only [dT h1,dF (show ¬ (0<=b/\b<(t.2.1.length:Int)) from fun h2=>h ⟨ht,⟨h1.1,h1.2⟩,⟨h2.1,h2.2⟩⟩),Bool.not_true,Bool.not_false]
  . simp only [dF h1,Bool.not_false]
theorem f21_at {t:TREE} (ht:TreeOK t) {a b:Int} (ha:IsCopy t a) (hb:IsCopy t b):f21 (t,(a,(b,()))) = .ret (sharedV t a b):=by
 have hfb:=fuel_big
 have hc:=ht.copies
 have hla:=path_len ht ha.l ha.h
 have hlb:=path_len ht hb.l hb.h
 unfold f21 F21
 simp only [f20_at ht ha.l ha.h,f20_at ht hb.l hb.h]
 let S:Nat->Int:=fun i=>((pathV t a).take i).foldl (fun n x=>if x∈pathV t b then (if x > n then x else n) else n) 0
 have hS:∀ i,i<(pathV t a).length->S (i+1)=if (pathV t a).getD i 0∈pathV t b then (if (pathV t a).getD i 0 > S i then (pathV t a).getD i 0 else S i) else S i:=fun i hi=>by
  show List.foldl _ 0 _=_
  rw [List.take_add_one,List.foldl_append,List.getElem?_eq_getElem hi,List.getD_eq_getElem?_getD,List.getElem?_eq_getElem hi]
  rfl
 have key:=runL (L:=fun n i=>L21_0 fuel n (pathV t a) (pathV t b) (S i) i) (len:=(pathV t a).length) (K:=.ret (S (pathV t a).length)) (fun n i hi=>?_) (fun n=>?_) (pathV t a).length fuel 0 (by omega) (by omega)
 . refine Eq.trans (show _=L21_0 fuel fuel (pathV t a) (pathV t b) (S 0) ((0:Nat):Int) from rfl) (key.trans ?_)
   congr 1
   symm
   have hinv:∀ i,i<=(pathV t a).length->S i∈pathV t a/\S i∈pathV t b/\∀ j,j<i->(pathV t a).getD j 0∈pathV t b->(pathV t a).getD j 0<=S i:=by
    intro i
    induction i with
    | zero=>exact fun _=>⟨path_zero ht ha.l ha.h,path_zero ht hb.l hb.h,fun j hj=>by omega⟩
    | succ i ih =>
     intro hi
     obtain ⟨i1,i2,i3⟩:=ih (by omega)
     rw [hS i (by omega)]
     by_cases g:(pathV t a).getD i 0∈pathV t b
     . rw [if_pos g]
       by_cases g2:(pathV t a).getD i 0 > S i
       . rw [if_pos g2]
         refine ⟨getD_mem (by omega),g,fun j hj hm=>?_⟩
         by_cases ej:j=i
         . subst ej;exact Int.le_refl _
         . have:=i3 j (by omega) hm;omega
       . rw [if_neg g2]
         refine ⟨i1,i2,fun j hj hm=>?_⟩
         by_cases ej:j=i
         . subst ej;omega
         . exact i3 j (by omega) hm
     . rw [if_neg g]
       refine ⟨i1,i2,fun j hj hm=>?_⟩
       by_cases ej:j=i
       . subst ej;exact absurd hm g
       . exact i3 j (by omega) hm
   obtain ⟨h1,h2,h3⟩:=hinv _ (Nat.le_refl _)
   refine shared_uniq ht ha hb h1 h2 fun x h4 h5=>?_
   obtain ⟨j,hj,rfl⟩:=mem_getD h4
   exact h3 j hj h5
 . try dsimp only
   rw [L21_0_succ]
   try delta lenI
   simp only [dT (show (i:Int)<(pathV t a).length by omega),inbT (show (0:Int)<=i by omega) (show (i:Int)<(pathV t a).length by omega),cond_true,Int.toNat_natCast,wn (show i<1000000000 by omega),f23_at _ _ (show (pathV t b).length<1000000 by omega)]
   rw [hS i hi]
   by_cases g:(pathV t a).getD i 0∈pathV t b
   . simp only [dT g,if_pos g]
   . simp only [dF g,if_neg g]
 . try dsimp only
   rw [L21_0_succ]
   try delta lenI
   simp only [dF (show ¬ (((pathV t a).length:Nat):Int)<(pathV t a).length by omega)]
end Go.V
namespace Go.V
open Go.Proofs
theorem TreeOK.t17 {t:TREE} (h:TreeOK t):f17 (t,()) = .ret true:=by
 rcases tree_ret (t:=t) with ⟨_,h1,_⟩|⟨h1,_⟩
 . exact h1
 . exact absurd h h1
theorem no17 {t:TREE} (h:¬ TreeOK t):f17 (t,()) = .ret false:=by
 rcases tree_ret (t:=t) with ⟨h1,_⟩|⟨_,h1,_⟩
 . exact absurd h1 h
 . exact h1
end Go.V
namespace Go.V
open Go.Proofs
@[irreducible] def f13v:lt1->Out Bool:=veil f13
theorem f13v_eq:f13v=f13:=by unfold f13v;exact veil_eq f13
def sp13v:Spec:=⟨13,.call,ty2,.bool,false,false,f13v⟩
theorem c13v:Contract Tryz.prog sp13v:=by
 unfold sp13v
 rw [f13v_eq]
 exact c13
@[irreducible] def f17v:lt1->Out Bool:=veil f17
theorem f17v_eq:f17v=f17:=by unfold f17v;exact veil_eq f17
def sp17v:Spec:=⟨17,.call,ty2,.bool,false,false,f17v⟩
theorem c17v:Contract Tryz.prog sp17v:=by
 unfold sp17v
 rw [f17v_eq]
 exact c17
@[irreducible] def f18v:lt4->Out Bool:=veil f18
theorem f18v_eq:f18v=f18:=by unfold f18v;exact veil_eq f18
def sp18v:Spec:=⟨18,.call,ty6,.bool,false,false,f18v⟩
theorem c18v:Contract Tryz.prog sp18v:=by
 unfold sp18v
 rw [f18v_eq]
 exact c18
@[irreducible] def f20v:lt4->Out (List Int):=veil f20
theorem f20v_eq:f20v=f20:=by unfold f20v;exact veil_eq f20
def sp20v:Spec:=⟨20,.call,ty6,(.list (.int .i64)),false,true,f20v⟩
theorem c20v:Contract Tryz.prog sp20v:=by
 unfold sp20v
 rw [f20v_eq]
 exact c20
@[irreducible] def f21v:lt6->Out Int:=veil f21
theorem f21v_eq:f21v=f21:=by unfold f21v;exact veil_eq f21
def sp21v:Spec:=⟨21,.call,ty9,(.int .i64),false,false,f21v⟩
theorem c21v:Contract Tryz.prog sp21v:=by
 unfold sp21v
 rw [f21v_eq]
 exact c21
end Go.V
namespace Go.V
open Go.Proofs
theorem b22:((2:Int)==2)=true:=rfl
theorem b00:((0:Int)==0)=true:=rfl
theorem n00:((0:Int) != 0)=false:=rfl
theorem bl0:(lenI ([]:List Int)==(0:Int))=true:=rfl
theorem nt:(!true)=false:=rfl
theorem nf:(!false)=true:=rfl
theorem copy_cases (t:TREE) (n:Int):(IsCopy t n/\decide (0<=n/\n<(t.2.1.length:Int))=true)\/(¬ IsCopy t n/\decide (0<=n/\n<(t.2.1.length:Int))=false):=by
 by_cases h:0<=n/\n<(t.2.1.length:Int)
 . exact .inl ⟨⟨h.1,h.2⟩,dT h⟩
 . exact .inr ⟨fun h2=>h ⟨h2.l,h2.h⟩,dF h⟩
theorem TreeOK.small {t:TREE} (h:TreeOK t):t.2.1.length<1000000:=by have:=h.copies;omega
theorem path_small {t:TREE} (ht:TreeOK t) {n:Int} (h:IsCopy t n):(pathV t n).length<1000000:=by have:=path_len ht h.l h.h;have:=ht.copies;omega
end Go.V
namespace Go.V
open Go.Proofs
def specs3:List Spec:=[sp13v,sp14v,sp15v,sp16v,sp17v,sp18v,sp20v,sp19v,sp21v]
def hints3:List (Nat×List Nat):=[]
def F3 (N:Nat) (x:lt6):Out Bool:=match f13v (x.1,()) with | .ret r_1=>(match (!r_1) with|true=>(match f14v () with | .ret r=>.ret r | .pan p=>.pan p | .fail=>.fail)|false=>match f15v (x.1,(x.2.1,())) with | .ret r_5=>(match f16v (x.1,(x.2.1,(x.2.2.1,()))) with | .ret r_7=>(match f17v (x.1,()) with | .ret r_9=>(match (!r_9) with|true=>(match (r_5.2.1==2) with|true=>(match ((lenI r_5.1)==0) with|true=>(match (r_7.2.1==2) with|true=>(match (r_7.1==0) with|true=>(match f14v () with | .ret r=>.ret r | .pan p=>.pan p | .fail=>.fail)|false=>.ret false)|false=>.ret false)|false=>.ret false)|false=>.ret false)|false=>match f18v (x.1,(x.2.1,())) with | .ret r_13=>(match (!r_13) with|true=>(match (r_5.2.1==2) with|true=>(match ((lenI r_5.1)==0) with|true=>(match (r_7.2.1==2) with|true=>(match (r_7.1==0) with|true=>(match f14v () with | .ret r=>.ret r | .pan p=>.pan p | .fail=>.fail)|false=>.ret false)|false=>.ret false)|false=>.ret false)|false=>.ret false)|false=>match (r_5.2.1 != 0) with|true=>.ret false|false=>match f20v (x.1,(x.2.1,())) with | .ret r_17=>(match f19v (r_5.1,(r_17,())) with | .ret r_19=>(match (!r_19) with|true=>.ret false|false=>match f18v (x.1,(x.2.2.1,())) with | .ret r_21=>(match (!r_21) with|true=>(match (r_7.2.1==2) with|true=>(match (r_7.1==0) with|true=>(match f14v () with | .ret r=>.ret r | .pan p=>.pan p | .fail=>.fail)|false=>.ret false)|false=>.ret false)|false=>match (r_7.2.1==0) with|true=>(match f21v (x.1,(x.2.1,(x.2.2.1,()))) with | .ret r_25=>(match (r_7.1==r_25) with|true=>(match f14v () with | .ret r=>.ret r | .pan p=>.pan p | .fail=>.fail)|false=>.ret false) | .pan p=>.pan p | .fail=>.fail)|false=>.ret false) | .pan p=>.pan p | .fail=>.fail) | .pan p=>.pan p | .fail=>.fail) | .pan p=>.pan p | .fail=>.fail) | .pan p=>.pan p | .fail=>.fail) | .pan p=>.pan p | .fail=>.fail) | .pan p=>.pan p | .fail=>.fail) | .pan p=>.pan p | .fail=>.fail) | .pan p=>.pan p | .fail=>.fail
theorem e3 (N:Nat) (x:lt6):vfn Tryz.prog (phi specs3) hints3 N Tryz.f3 false false ty9 .bool x=F3 N x:=by kernel_rfl
def f3 (x:lt6):Out Bool:=F3 fuel x
def sp3:Spec:=⟨3,.call,ty9,.bool,false,false,f3⟩
theorem c3:Contract Tryz.prog sp3:=contract_at (l:=specs3) (arg:=ty9) (res:=.bool) (multi:=false) (own:=false) (F:=f3) mixed (all_cons c13v (all_cons c14v (all_cons c15v (all_cons c16v (all_cons c17v (all_cons c18v (all_cons c20v (all_cons c19v (all_cons c21v all_nil))))))))) Tryz.func3 rfl hints3 fun x _=>⟨fuel,e3 fuel x⟩
end Go.V
namespace Go.V
open Go.Proofs
theorem law3 (t:TREE) (a b:Int):f3 (t,(a,(b,()))) = .ret true:=by
 show F3 fuel (t,(a,(b,())))=_
 unfold F3
 obtain ⟨c,h13⟩:=f13_at t
 simp only [f13v_eq,f15v_eq,f16v_eq,f17v_eq,f18v_eq,f19v_eq,f20v_eq,f21v_eq,h13]
 cases c with
 | false=>simp only [nf,known_true]
 | true =>
  simp only [nt]
  by_cases ht:TreeOK t
  rotate_left
  . simp only [f15_no (t:=t) (n:=a) fun h=>ht h.1,f16_no (t:=t) (a:=a) (b:=b) fun h=>ht h.1,no17 ht,nf,b22,bl0,b00,known_true]
  have hs:=ht.small
  simp only [ht.t17,nt,f18_at (t:=t) _ hs]
  rcases copy_cases t a with ⟨ha,ea⟩|⟨ha,ea⟩
  rotate_left
  . simp only [ea,nf,f15_no (t:=t) (n:=a) fun h=>ha ⟨h.2.1,h.2.2⟩,f16_no (t:=t) (a:=a) (b:=b) fun h=>ha h.2.1,b22,bl0,b00,known_true]
  simp only [ea,nt,f15_at ht ha.l ha.h,n00,f20_at ht ha.l ha.h,f19_at (pathV t a) (pathV t a) (path_small ht ha),decide_true]
  rcases copy_cases t b with ⟨hb,eb⟩|⟨hb,eb⟩
  rotate_left
  . simp only [eb,nf,f16_no (t:=t) (a:=a) (b:=b) fun h=>hb h.2.2,b22,b00,known_true]
  simp only [eb,nt,f16_at ht ha hb,f21_at ht ha hb,b00,beq_self_eq_true,known_true]
end Go.V
end
