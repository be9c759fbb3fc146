/- What law 11 of the copies needs beyond what all laws need: functions read, and the plain law. -/
import Derived.Test.YtmkbnifehdhbbaaGreatDoorQL
import Derived.Test.YtmkbnifehdhbbaaGreatDoorCR2
import Derived.Test.YtmkbnifehdhbbaaGreatDoorCRA
set_option linter.all false
noncomputable section
namespace Go.V
open Go.Proofs
def specs13:List Spec:=[]
def hints13:List (Nat×List Nat):=[(2,[1,3])]
def L13_0 (N:Nat) (n_L13_0:Nat) (x:lt1) (i_1:Int):Out Bool :=
 vloop Tryz.prog (phi specs13) hints13 N Tryz.f13 false false .bool [.at 1,.at 0,.at 1,.at 0] n_L13_0 [U,.box [.d (.int .i64) x.1.1,.d ty0 x.1.2.1],U,.d (.int .i64) i_1,U,U,U,U,U,U,U,U,U,U,U,U,U,U,U,U,U,U,U,U,U,U,U]
theorem L13_0_succ (N:Nat) (n_L13_0:Nat) (x:lt1) (i_1:Int):L13_0 N  (n_L13_0+1) x i_1 =
 (match (decide (i_1<(lenI x.1.2.1))) with|true=>(match (decide (i_1<10)) with|true=>bif (inb i_1 x.1.2.1.length) then match (decide ((lenI ((List.getD x.1.2.1 i_1.toNat (0,([],())))).2.1) > 5)) with|true=>.ret false|false=>L13_0 N n_L13_0 x (IntKind.i64.wrap (i_1+1)) else .fail|false=>.ret (decide ((lenI x.1.2.1)<=10)))|false=>.ret (decide ((lenI x.1.2.1)<=10)):Out Bool):=by kernel_rfl
def F13 (N:Nat) (x:lt1):Out Bool:=L13_0 N N x 0
theorem e13 (N:Nat) (x:lt1):vfn Tryz.prog (phi specs13) hints13 N Tryz.f13 false false ty2 .bool x=F13 N x:=by kernel_rfl
def f13 (x:lt1):Out Bool:=F13 fuel x
def sp13:Spec:=⟨13,.call,ty2,.bool,false,false,f13⟩
theorem c13:Contract Tryz.prog sp13:=contract_at (l:=specs13) (arg:=ty2) (res:=.bool) (multi:=false) (own:=false) (F:=f13) mixed all_nil Tryz.func13 rfl hints13 fun x _=>⟨fuel,e13 fuel x⟩
def specs20 (g:lt4->Out (List Int)):List Spec:=[⟨20,.call,ty6,(.list (.int .i64)),false,true,g⟩]
def hints20:List (Nat×List Nat):=[]
def F20 (g:lt4->Out (List Int)) (N:Nat) (x:lt4):Out (List Int):=match (x.2.1==0) with|true=>.ret ([0]:List Int)|false=>bif (inb x.2.1 x.1.2.1.length) then match g (x.1,(((List.getD x.1.2.1 x.2.1.toNat (0,([],())))).1,())) with | .ret r_1=>bif (fits ([x.2.1]:List Int) r_1) then .ret (([x.2.1]:List Int)++r_1) else .fail | .pan p=>.pan p | .fail=>.fail else .fail
theorem e20 (g:lt4->Out (List Int)) (N:Nat) (x:lt4):vfn Tryz.prog (phi (specs20 g)) hints20 N Tryz.f20 false true ty6 (.list (.int .i64)) x=F20 g N x:=by kernel_rfl
def f20r:Nat->lt4->Out (List Int)
 | 0,_=>.fail
 | m+1,x=>F20 (f20r m) fuel x
theorem c20r:∀ m,Contract Tryz.prog ⟨20,.call,ty6,(.list (.int .i64)),false,true,f20r m⟩
 | 0=>fun _ _ _ _ _ _ _=>trivial
 | m+1=>contract_at (l:=specs20 (f20r m)) (arg:=ty6) (res:=(.list (.int .i64))) (multi:=false) (own:=true) (F:=f20r (m+1)) mixed (all_cons (c20r m) all_nil) Tryz.func20 rfl hints20 fun x _=>⟨fuel,e20 (f20r m) fuel x⟩
def f20 (x:lt4):Out (List Int):=f20r fuel x
def sp20:Spec:=⟨20,.call,ty6,(.list (.int .i64)),false,true,f20⟩
theorem c20:Contract Tryz.prog sp20:=c20r fuel
def specs23:List Spec:=[]
def hints23:List (Nat×List Nat):=[(2,[0,1,5])]
def L23_0 (N:Nat) (n_L23_0:Nat) (x:lt2) (i_1:Int):Out Bool :=
 vloop Tryz.prog (phi specs23) hints23 N Tryz.f23 false false .bool [.at 1,.at 0,.at 1,.at 0] n_L23_0 [.d (.list (.int .i64)) x.1,.d (.int .i64) x.2.1,U,U,U,.d (.int .i64) i_1,U,U,U,U,U,U,U,U,U,U,U,U]
theorem L23_0_succ (N:Nat) (n_L23_0:Nat) (x:lt2) (i_1:Int):L23_0 N  (n_L23_0+1) x i_1 =
 (match (decide (i_1<(lenI x.1))) with|true=>bif (inb i_1 x.1.length) then match ((List.getD x.1 i_1.toNat 0)==x.2.1) with|true=>.ret true|false=>L23_0 N n_L23_0 x (IntKind.i64.wrap (i_1+1)) else .fail|false=>.ret false:Out Bool):=by kernel_rfl
def F23 (N:Nat) (x:lt2):Out Bool:=L23_0 N N x 0
theorem e23 (N:Nat) (x:lt2):vfn Tryz.prog (phi specs23) hints23 N Tryz.f23 false false ty3 .bool x=F23 N x:=by kernel_rfl
def f23 (x:lt2):Out Bool:=F23 fuel x
def sp23:Spec:=⟨23,.call,ty3,.bool,false,false,f23⟩
theorem c23:Contract Tryz.prog sp23:=contract_at (l:=specs23) (arg:=ty3) (res:=.bool) (multi:=false) (own:=false) (F:=f23) mixed all_nil Tryz.func23 rfl hints23 fun x _=>⟨fuel,e23 fuel x⟩
def specs61:List Spec:=[]
def hints61:List (Nat×List Nat):=[]
theorem e61 (N:Nat) (x:(Int×(Int×(Int×Unit)))):vfn Tryz.prog (phi specs61) hints61 N Tryz.f61 false false ty10 .bool x=F61 N x:=by kernel_rfl
theorem c61:Contract Tryz.prog sp61:=contract_at (l:=specs61) (arg:=ty10) (res:=.bool) (multi:=false) (own:=false) (F:=f61) mixed all_nil Tryz.func61 rfl hints61 fun x _=>⟨fuel,e61 fuel x⟩
def specs84:List Spec:=[sp20,sp23]
def hints84:List (Nat×List Nat):=[(2,[1,2,3,4,5,11])]
def L84_0 (N:Nat) (n_L84_0:Nat) (x:((Int×((List (Int×((List Int)×Unit)))×Unit))×(Int×(Int×(Int×(Int×Unit)))))) (i_1:Int):Out Bool :=
 vloop Tryz.prog (phi specs84) hints84 N Tryz.f84 false false .bool [.at 1,.at 0,.at 1,.at 0] n_L84_0 [U,.d (.int .i64) x.2.1,.d (.int .i64) x.2.2.1,.d (.int .i64) x.2.2.2.1,.d (.int .i64) x.2.2.2.2.1,.box [.d (.int .i64) x.1.1,.d ty0 x.1.2.1],U,U,U,U,U,.d (.int .i64) i_1,U,U,U,U,U,U,U,U,U,U,U,U,U,U,U,U,U,U,U,U,U,U,U,U,U,U,U,U,U,U,U,U,U,U,U,U,U,U]
theorem L84_0_succ (N:Nat) (n_L84_0:Nat) (x:((Int×((List (Int×((List Int)×Unit)))×Unit))×(Int×(Int×(Int×(Int×Unit)))))) (i_1:Int):L84_0 N  (n_L84_0+1) x i_1 =
 (match (decide (i_1<(lenI x.1.2.1))) with|true=>(match f20 (x.1,(i_1,())) with | .ret r_2=>(match f23 (r_2,(x.2.2.2.1,())) with | .ret r_4=>(match r_4 with|true=>bif (inb i_1 x.1.2.1.length) then bif (inb x.2.1 ((List.getD x.1.2.1 i_1.toNat (0,([],())))).2.1.length) then match (decide ((List.getD ((List.getD x.1.2.1 i_1.toNat (0,([],())))).2.1 x.2.1.toNat 0) >= 0)) with|true=>bif (inb i_1 x.1.2.1.length) then bif (inb x.2.1 ((List.getD x.1.2.1 i_1.toNat (0,([],())))).2.1.length) then match ((List.getD ((List.getD x.1.2.1 i_1.toNat (0,([],())))).2.1 x.2.1.toNat 0) != x.2.2.2.2.1) with|true=>.ret false|false=>L84_0 N n_L84_0 x (IntKind.i64.wrap (i_1+1)) else .fail else .fail|false=>L84_0 N n_L84_0 x (IntKind.i64.wrap (i_1+1)) else .fail else .fail|false=>bif (inb i_1 x.1.2.1.length) then bif (inb x.2.1 ((List.getD x.1.2.1 i_1.toNat (0,([],())))).2.1.length) then match (decide ((List.getD ((List.getD x.1.2.1 i_1.toNat (0,([],())))).2.1 x.2.1.toNat 0) >= 0)) with|true=>bif (inb i_1 x.1.2.1.length) then bif (inb x.2.1 ((List.getD x.1.2.1 i_1.toNat (0,([],())))).2.1.length) then match ((List.getD ((List.getD x.1.2.1 i_1.toNat (0,([],())))).2.1 x.2.1.toNat 0) != x.2.2.1) with|true=>.ret false|false=>L84_0 N n_L84_0 x (IntKind.i64.wrap (i_1+1)) else .fail else .fail|false=>L84_0 N n_L84_0 x (IntKind.i64.wrap (i_1+1)) else .fail else .fail) | .pan p=>.pan p | .fail=>.fail) | .pan p=>.pan p | .fail=>.fail)|false=>.ret true:Out Bool):=by kernel_rfl
def F84 (N:Nat) (x:((Int×((List (Int×((List Int)×Unit)))×Unit))×(Int×(Int×(Int×(Int×Unit)))))):Out Bool:=L84_0 N N x 0
theorem e84 (N:Nat) (x:((Int×((List (Int×((List Int)×Unit)))×Unit))×(Int×(Int×(Int×(Int×Unit)))))):vfn Tryz.prog (phi specs84) hints84 N Tryz.f84 false false (.prod (.prod (.int .i64) (.prod (.list (.prod (.int .i64) (.prod (.list (.int .i64)) .unit))) .unit)) (.prod (.int .i64) (.prod (.int .i64) (.prod (.int .i64) (.prod (.int .i64) .unit))))) .bool x=F84 N x:=by kernel_rfl
def f84 (x:((Int×((List (Int×((List Int)×Unit)))×Unit))×(Int×(Int×(Int×(Int×Unit)))))):Out Bool:=F84 fuel x
def sp84:Spec:=⟨84,.call,(.prod (.prod (.int .i64) (.prod (.list (.prod (.int .i64) (.prod (.list (.int .i64)) .unit))) .unit)) (.prod (.int .i64) (.prod (.int .i64) (.prod (.int .i64) (.prod (.int .i64) .unit))))),.bool,false,false,f84⟩
theorem c84:Contract Tryz.prog sp84:=contract_at (l:=specs84) (arg:=(.prod (.prod (.int .i64) (.prod (.list (.prod (.int .i64) (.prod (.list (.int .i64)) .unit))) .unit)) (.prod (.int .i64) (.prod (.int .i64) (.prod (.int .i64) (.prod (.int .i64) .unit)))))) (res:=.bool) (multi:=false) (own:=false) (F:=f84) mixed (all_cons c20 (all_cons c23 all_nil)) Tryz.func84 rfl hints84 fun x _=>⟨fuel,e84 fuel x⟩
def specs39:List Spec:=[sp61]
def hints39:List (Nat×List Nat):=[]
def F39 (N:Nat) (x:lt4):Out Bool:=match f61 (x.2.1,(0,((IntKind.i64.wrap (x.1.1 - 1)),()))) with | .ret r=>.ret r | .pan p=>.pan p | .fail=>.fail
theorem e39 (N:Nat) (x:lt4):vfn Tryz.prog (phi specs39) hints39 N Tryz.f39 false false ty6 .bool x=F39 N x:=by kernel_rfl
def f39 (x:lt4):Out Bool:=F39 fuel x
def sp39:Spec:=⟨39,.call,ty6,.bool,false,false,f39⟩
theorem c39:Contract Tryz.prog sp39:=contract_at (l:=specs39) (arg:=ty6) (res:=.bool) (multi:=false) (own:=false) (F:=f39) mixed (all_cons c61 all_nil) Tryz.func39 rfl hints39 fun x _=>⟨fuel,e39 fuel x⟩
def specs46:List Spec:=[sp61]
def hints46:List (Nat×List Nat):=[]
theorem e46 (N:Nat) (x:(Int×Unit)):vfn Tryz.prog (phi specs46) hints46 N Tryz.f46 false false (.prod (.int .i64) .unit) .bool x=F46 N x:=by kernel_rfl
theorem c46:Contract Tryz.prog sp46:=contract_at (l:=specs46) (arg:=(.prod (.int .i64) .unit)) (res:=.bool) (multi:=false) (own:=false) (F:=f46) mixed (all_cons c61 all_nil) Tryz.func46 rfl hints46 fun x _=>⟨fuel,e46 fuel x⟩
def specs47:List Spec:=[sp84]
def hints47:List (Nat×List Nat):=[(3,[1,2,3,7,8]),(7,[1,2,3,7,8,9,10])]
def L47_1 (N:Nat) (n_L47_0:Nat) (n_L47_1:Nat) (x:lt6) (c_2:Int) (out_3:(List Int)) (met_4:Bool) (f_5:Int):Out (List Int) :=
 vloop Tryz.prog (phi specs47) hints47 N Tryz.f47 false true (.list (.int .i64)) [.at 1,.at 1,.at 0,.at 1,.at 0,.at n_L47_0,.at 1,.at 0,.at 0,.at 1,.at 0,.at 1,.at 0] n_L47_1 [U,.d (.int .i64) x.2.1,.d (.int .i64) x.2.2.1,.box [.d (.int .i64) x.1.1,.d ty0 x.1.2.1],U,U,U,.own (.int .i64) out_3 false,.d (.int .i64) c_2,.d .bool met_4,.d (.int .i64) f_5,U,U,U,U,U,U,U,U,U,U,U,U,U,U,U,U,U,U,U,U,U,U,U,U,U,U,U,U,U,U,U,U,U,U,U,U,U,U,U,U,U,U,U,U,U,U,U,U,U,U,U,U,U,U]
def L47_0 (N:Nat) (n_L47_0:Nat) (x:lt6) (out_1:(List Int)) (c_2:Int):Out (List Int) :=
 vloop Tryz.prog (phi specs47) hints47 N Tryz.f47 false true (.list (.int .i64)) [.at 1,.at 1,.at 0,.at 1,.at 0] n_L47_0 [U,.d (.int .i64) x.2.1,.d (.int .i64) x.2.2.1,.box [.d (.int .i64) x.1.1,.d ty0 x.1.2.1],U,U,U,.own (.int .i64) out_1 false,.d (.int .i64) c_2,U,U,U,U,U,U,U,U,U,U,U,U,U,U,U,U,U,U,U,U,U,U,U,U,U,U,U,U,U,U,U,U,U,U,U,U,U,U,U,U,U,U,U,U,U,U,U,U,U,U,U,U,U,U,U,U]
theorem L47_1_succ (N:Nat) (n_L47_0:Nat) (n_L47_1:Nat) (x:lt6) (c_2:Int) (out_3:(List Int)) (met_4:Bool) (f_5:Int):L47_1 N n_L47_0 (n_L47_1+1) x c_2 out_3 met_4 f_5 =
 (match (decide (f_5<=9)) with|true=>(match met_4 with|true=>L47_1 N n_L47_0 n_L47_1 x c_2 out_3 true (IntKind.i64.wrap (f_5+1))|false=>match (f_5 != x.2.2.1) with|true=>(match f84 (x.1,(x.2.1,(x.2.2.1,(c_2,(f_5,()))))) with | .ret r_6=>L47_1 N n_L47_0 n_L47_1 x c_2 out_3 r_6 (IntKind.i64.wrap (f_5+1)) | .pan p=>.pan p | .fail=>.fail)|false=>L47_1 N n_L47_0 n_L47_1 x c_2 out_3 false (IntKind.i64.wrap (f_5+1)))|false=>match met_4 with|true=>bif (fits out_3 ([c_2]:List Int)) then L47_0 N n_L47_0 x (out_3++([c_2]:List Int)) (IntKind.i64.wrap (c_2+1)) else .fail|false=>L47_0 N n_L47_0 x out_3 (IntKind.i64.wrap (c_2+1)):Out (List Int)):=by kernel_rfl
theorem L47_0_succ (N:Nat) (n_L47_0:Nat) (x:lt6) (out_1:(List Int)) (c_2:Int):L47_0 N  (n_L47_0+1) x out_1 c_2 =
 (match (decide (c_2<(lenI x.1.2.1))) with|true=>bif (inb 0 x.1.2.1.length) then bif (inb x.2.1 ((List.getD x.1.2.1 (0:Int).toNat (0,([],())))).2.1.length) then match (decide ((List.getD ((List.getD x.1.2.1 (0:Int).toNat (0,([],())))).2.1 x.2.1.toNat 0)<0)) with|true=>L47_1 N n_L47_0 N x c_2 out_1 false 0|false=>bif (inb 0 x.1.2.1.length) then bif (inb x.2.1 ((List.getD x.1.2.1 (0:Int).toNat (0,([],())))).2.1.length) then match ((List.getD ((List.getD x.1.2.1 (0:Int).toNat (0,([],())))).2.1 x.2.1.toNat 0)==x.2.2.1) with|true=>L47_1 N n_L47_0 N x c_2 out_1 false 0|false=>.ret out_1 else .fail else .fail else .fail else .fail|false=>.ret out_1:Out (List Int)):=by kernel_rfl
def F47 (N:Nat) (x:lt6):Out (List Int):=L47_0 N N x [] 1
theorem e47 (N:Nat) (x:lt6):vfn Tryz.prog (phi specs47) hints47 N Tryz.f47 false true ty9 (.list (.int .i64)) x=F47 N x:=by kernel_rfl
def f47 (x:lt6):Out (List Int):=F47 fuel x
def sp47:Spec:=⟨47,.call,ty9,(.list (.int .i64)),false,true,f47⟩
theorem c47:Contract Tryz.prog sp47:=contract_at (l:=specs47) (arg:=ty9) (res:=(.list (.int .i64))) (multi:=false) (own:=true) (F:=f47) mixed (all_cons c84 all_nil) Tryz.func47 rfl hints47 fun x _=>⟨fuel,e47 fuel x⟩
theorem e17 (N:Nat) (x:lt1):vfn Tryz.prog (phi specs17) hints17 N Tryz.f17 false false ty2 .bool x=F17 N x:=by kernel_rfl
def sp17:Spec:=⟨17,.call,ty2,.bool,false,false,f17⟩
theorem c17:Contract Tryz.prog sp17:=contract_at (l:=specs17) (arg:=ty2) (res:=.bool) (multi:=false) (own:=false) (F:=f17) mixed (all_cons c61 (all_cons c46 all_nil)) Tryz.func17 rfl hints17 fun x _=>⟨fuel,e17 fuel x⟩
end Go.V
namespace Go.V
open Go.Proofs
theorem f23_at (l:List Int) (x:Int) (h:l.length<1000000):f23 (l,(x,())) = .ret (decide (x∈l)):=by
 have hfb:=fuel_big
 unfold f23 F23
 have key:=findL (L:=fun n i=>L23_0 fuel n (l,(x,())) i) (len:=l.length) (K:=.ret false) (fun i=>l.getD i 0=x) (fun _=>.ret true) (fun n i hi=>?_) (fun n=>?_) l.length fuel 0 (by omega) (by omega)
 . rcases key with ⟨j,h1,h2,h3,h4,h5⟩|⟨h1,h2⟩
   . rw [show L23_0 fuel fuel (l,(x,())) 0=_ from h5,dT (show x∈l by rw [<- h3];exact getD_mem h2)]
   . rw [show L23_0 fuel fuel (l,(x,())) 0=_ from h2,dF fun hm=>?_]
     obtain ⟨i,hi,he⟩:=mem_getD hm
     exact h1 i (Nat.zero_le _) hi he
 . try dsimp only
   rw [L23_0_succ]
   try delta lenI
   simp only [dT (show (i:Int)<l.length by omega),inbT (show (0:Int)<=i by omega) (show (i:Int)<l.length by omega),cond_true,Int.toNat_natCast,wn (show i<1000000000 by omega)]
   by_cases g:l.getD i 0=x
   . simp only [eT g];exact .inl ⟨g,trivial⟩
   . simp only [eF g];exact .inr ⟨g,trivial⟩
 . try dsimp only
   rw [L23_0_succ]
   try delta lenI
   simp only [dF (show ¬ ((l.length:Nat):Int)<l.length by omega)]
theorem f13_at (t:TREE):∃ b,f13 (t,()) = .ret b:=by
 have hfb:=fuel_big
 unfold f13 F13
 have done:∀ n i:Nat,¬ (i:Int)<t.2.1.length\/¬ i<10->∃ b,L13_0 fuel (n+1) (t,()) i = .ret b:=fun n i h=>by
  rw [L13_0_succ]
  try delta lenI
  by_cases h1:(i:Int)<t.2.1.length
  . have h2:¬ (i:Int)<10:=by rcases h with h|h<;>omega
    simp only [dT h1,dF h2]
    exact ⟨_,rfl⟩
  . simp only [dF h1]
    exact ⟨_,rfl⟩
 have loop:∀ (d n i:Nat),d<n->i+d=10->∃ b,L13_0 fuel n (t,()) i = .ret b:=by
  intro d
  induction d with
  | zero =>
   intro n i hn hi
   obtain ⟨n,rfl⟩:=succ_of hn
   exact done n i (.inr (by omega))
  | succ d ih =>
   intro n i hn hi
   obtain ⟨n,rfl⟩:=succ_of hn
   by_cases h1:(i:Int)<t.2.1.length
   . rw [L13_0_succ]
     try delta lenI
     simp only [dT h1,dT (show (i:Int)<10 by omega),inbT (show (0:Int)<=i by omega) h1,cond_true,wn (show i<1000000000 by omega)]
     split
     . exact ⟨_,rfl⟩
     . exact ih n (i+1) (by omega) (by omega)
   . exact done n i (.inl h1)
 exact loop 10 fuel 0 (by omega) (by omega)
theorem f20r_at {t:TREE} (ht:TreeOK t):∀ (m:Nat) (n:Int),n<m->0<=n->n<t.2.1.length->f20r m (t,(n,())) = .ret (pathV t n)
 | 0,n,h,h0,h1=>by omega
 | m+1,n,h,h0,h1=>by
  show F20 (f20r m) fuel (t,(n,()))=_
  unfold F20
  by_cases e:n=0
  . subst e
    rfl
  . have hu:=up_in ht (n:=n) (by omega) h1
    have hl:=path_len ht hu.1 hu.2.2
    have hc:=ht.copies
    have ih:=f20r_at ht m (parentAt t n.toNat) (by omega) hu.1 hu.2.2
    have ih':f20r m (t,((t.2.1.getD n.toNat ((0:Int),(([]:List Int),()))).1,())) = .ret (pathV t (parentAt t n.toNat)):=ih
    rw [path_up ht (n:=n) (by omega) h1]
    simp only [eF e,inbT h0 h1,cond_true,ih',fitsT (xs:=[n]) (ys:=pathV t (parentAt t n.toNat)) (by simp;omega)]
    rfl
theorem f20_at {t:TREE} (ht:TreeOK t) {n:Int} (h0:0<=n) (h1:n<t.2.1.length):f20 (t,(n,())) = .ret (pathV t n):=f20r_at ht fuel n (by have:=fuel_big;have:=ht.copies;omega) h0 h1
end Go.V
namespace Go.V
open Go.Proofs
theorem TreeOK.t17 {t:TREE} (h:TreeOK t):f17 (t,()) = .ret true:=by
 rcases tree_ret (t:=t) with ⟨_,h1,_⟩|⟨h1,_⟩
 . exact h1
 . exact absurd h h1
theorem no17 {t:TREE} (h:¬ TreeOK t):f17 (t,()) = .ret false:=by
 rcases tree_ret (t:=t) with ⟨h1,_⟩|⟨_,h1,_⟩
 . exact absurd h1 h
 . exact h1
end Go.V
namespace Go.V
open Go.Proofs
theorem f39_at {t:TREE} (ht:TreeOK t) (p:Int):f39 (t,(p,())) = .ret (decide (0<=p/\p<t.1)):=by
 have:=ht.places
 unfold f39 F39
 simp only [i61]
 rw [wr (by omega) (by omega)]
 by_cases h1:0<=p/\p<t.1
 . rw [dT h1,dT (by omega)]
 . rw [dF h1,dF (by omega)]
end Go.V
namespace Go.V
open Go.Proofs
theorem seen_lo {t:TREE} (ht:TreeOK t) {i p:Nat} (hi:i<t.2.1.length) (hp:(p:Int)<t.1) : -1<=seenAt t i p/\seenAt t i p<=9:=(ht.treeP (place:=p) (by omega) hp).figs i hi
end Go.V
namespace Go.V
open Go.Proofs
theorem runL1 {ρ:Type} {L:Nat->Nat->Out ρ} {len lo:Nat} {K:Out ρ} (step:∀ n i:Nat,lo<=i->i<len->L (n+1) i=L n (i+1)) (done:∀ n,L (n+1) len=K):∀ (m n i:Nat),lo<=i->m<n->i+m=len->L n i=K
 | 0,n,i,h0,h1,h2=>by
  obtain ⟨n,rfl⟩:=succ_of h1
  rw [show i=len by omega,done]
 | m+1,n,i,h0,h1,h2=>by
  obtain ⟨n,rfl⟩:=succ_of (show 0<n by omega)
  rw [step n i h0 (by omega),runL1 step done m n (i+1) (by omega) (by omega) (by omega)]
theorem f45_no {t:TREE} {p right:Int} (h:¬ (TreeOK t/\IsPlace t p/\0<=right/\right<=9)):f45 (t,(p,(right,()))) = .ret ([],(2,())):=by
 unfold f45 F45
 rcases tree_ret (t:=t) with ⟨ht,_,h2⟩|⟨h1,_,h2⟩
 . simp only [h2,Bool.not_true,f73_at ht]
   by_cases h1:0<=p/\p<t.1
   . simp only [dT h1,Bool.not_true,i80,dF (show ¬ (0<=right/\right<=9) from fun h3=>h ⟨ht,⟨h1.1,h1.2⟩,h3⟩),Bool.not_false]
     rfl
   . simp only [dF h1,Bool.not_false]
     rfl
 . simp only [h2,Bool.not_false]
   rfl
def explT (t:TREE) (p right c f:Int):Prop:=∀ i,i<t.2.1.length->seenAt t i p >= 0->seenAt t i p=bif under t c i then f else right
theorem f84_at {t:TREE} (ht:TreeOK t) {p:Nat} (hp:(p:Int)<t.1) {right c f:Int}:∃ b,f84 (t,((p:Int),(right,(c,(f,()))))) = .ret b/\(b=true<->explT t p right c f):=by
 have hfb:=fuel_big
 have hcc:=ht.copies
 unfold f84 F84
 have key:=findL (L:=fun n i=>L84_0 fuel n (t,((p:Int),(right,(c,(f,()))))) i) (len:=t.2.1.length) (K:=.ret true) (fun i=>¬ (seenAt t i p >= 0->seenAt t i p=bif under t c i then f else right)) (fun _=>.ret false) (fun n i hi=>?_) (fun n=>?_) t.2.1.length fuel 0 (by omega) (by omega)
 . rcases key with ⟨j,h1,h2,h3,h4,h5⟩|⟨h1,h2⟩
   . exact ⟨false,h5,⟨fun h=>(by cases h),fun h=>absurd (h j h2) h3⟩⟩
   . exact ⟨true,h2,⟨fun _ i hi=>Classical.byContradiction fun h=>h1 i (Nat.zero_le _) hi h,fun _=>rfl⟩⟩
 . try dsimp only
   rw [L84_0_succ]
   try delta lenI
   have hl:((t.2.1.getD i NODE0).2.1.length:Int)=t.1:=(ht.node i hi).len
   have es:(t.2.1.getD i NODE0).2.1.getD p 0=seenAt t i p:=(seenAt_node t i p).symm
   have hI:IsCopy t (i:Int):=⟨by omega,by omega⟩
   have hpl:=path_len ht hI.l hI.h
   have eu:decide (c∈pathV t i)=under t c i:=rfl
   simp only [dT (show (i:Int)<t.2.1.length by omega),f20_at ht hI.l hI.h,f23_at (pathV t i) c (by omega),eu,inbT (show (0:Int)<=i by omega) (show (i:Int)<t.2.1.length by omega),Int.toNat_natCast,inbT (show (0:Int)<=p by omega) (show (p:Int)<(t.2.1.getD i NODE0).2.1.length by omega),cond_true,es,wn (show i<1000000000 by omega)]
   by_cases g:seenAt t i p >= 0
   rotate_left
   . simp only [dF g]
     refine .inr ⟨fun h=>h fun h2=>absurd h2 g,?_⟩
     cases under t c i<;>rfl
   simp only [dT g]
   cases hu:under t c i with
   | true =>
    simp only [cond_true]
    by_cases g2:seenAt t i p=f
    . simp only [nF g2];exact .inr ⟨fun h=>h fun _=>g2,trivial⟩
    . simp only [nT g2];exact .inl ⟨fun h=>g2 (h g),trivial⟩
   | false =>
    simp only [cond_false]
    by_cases g2:seenAt t i p=right
    . simp only [nF g2];exact .inr ⟨fun h=>h fun _=>g2,trivial⟩
    . simp only [nT g2];exact .inl ⟨fun h=>g2 (h g),trivial⟩
 . try dsimp only
   rw [L84_0_succ]
   try delta lenI
   simp only [dF (show ¬ ((t.2.1.length:Nat):Int)<t.2.1.length by omega)]
theorem expl_iff {t:TREE} (ht:TreeOK t) {p:Nat} (hp:(p:Int)<t.1) {right c:Int} (hr:0<=right/\right<=9):(∃ f:Nat,f<10/\(f:Int)≠right/\explT t p right c f)<->SrcOK t p right c:=by
 have hT:=ht.treeP (place:=p) (by omega) hp
 have hlo:∀ i,i<t.2.1.length -> -1<=seenAt t i p/\seenAt t i p<=9:=fun i hi=>hT.figs i hi
 constructor
 . rintro ⟨f,hf,hne,he⟩
   have key:∀ i,i<t.2.1.length->under t c i=true->seenAt t i p = -1\/seenAt t i p=f:=fun i hi hu=>by
    have h1:=hlo i hi
    by_cases g:seenAt t i p >= 0
    . have:=he i hi g;rw [hu] at this;exact .inr this
    . exact .inl (by omega)
   refine ⟨fun i hi hu=>?_,fun i hi hu=>?_,fun i j hi hu hj hv h1 h2=>?_⟩
   . have h1:=hlo i hi
     rw [fitsV_iff]
     by_cases g:seenAt t i p >= 0
     . have:=he i hi g;rw [hu] at this;exact .inr this
     . exact .inl (by omega)
   . rcases key i hi hu with h|h<;>omega
   . rcases key i hi hu with h|h
     . exact absurd h h1
     . rcases key j hj hv with h3|h3
       . exact absurd h3 h2
       . rw [h,h3]
 . intro h
   have hoff:∀ i,i<t.2.1.length->under t c i=false->seenAt t i p >= 0->seenAt t i p=right:=fun i hi hu g=>by
    rcases fitsV_iff.1 (h.off i hi hu) with e|e
    . omega
    . exact e
   by_cases g:∃ i,i<t.2.1.length/\under t c i=true/\seenAt t i p ≠ -1
   . obtain ⟨i,hi,hu,hs⟩:=g
     have h1:=hlo i hi
     refine ⟨(seenAt t i p).toNat,by omega,by have:=h.on i hi hu;omega,fun j hj g2=>?_⟩
     cases hv:under t c j with
     | true =>
      rw [cond_true]
      have:=h.one j i hj hv hi hu (by omega) hs
      omega
     | false=>exact hoff j hj hv g2
   . by_cases e:right=0
     . refine ⟨1,by omega,by omega,fun j hj g2=>?_⟩
       cases hv:under t c j with
       | true=>exact absurd ⟨j,hj,hv,by omega⟩ g
       | false=>exact hoff j hj hv g2
     . refine ⟨0,by omega,by omega,fun j hj g2=>?_⟩
       cases hv:under t c j with
       | true=>exact absurd ⟨j,hj,hv,by omega⟩ g
       | false=>exact hoff j hj hv g2
theorem f47_at {t:TREE} (ht:TreeOK t) {p:Nat} (hp:(p:Int)<t.1) {right:Int} (hr:0<=right/\right<=9):f47 (t,((p:Int),(right,()))) = .ret (srcT t p right):=by
 have hfb:=fuel_big
 have hcc:=ht.copies
 have hl:((t.2.1.getD 0 NODE0).2.1.length:Int)=t.1:=(ht.node 0 (by omega)).len
 have es:(t.2.1.getD 0 NODE0).2.1.getD p 0=seenAt t (0:Nat) p:=(seenAt_node t 0 p).symm
 have hlo:=seen_lo ht (i:=0) (by omega) hp
 have u0:∀ c:Int,0<c->under t c 0=false:=fun c h0=>by
  unfold under
  refine dF fun h=>?_
  have h:c∈pathV t 0:=h
  rw [path0] at h
  simp at h
  omega
 have f1:(allTo 1).filter (srcQ t p right)=[]:=by
  rw [filter_succ]
  rfl
 unfold f47 F47
 by_cases hfit:fitsV t p (0:Nat) right=true
 rotate_left
 . -- the copy 0 has another figure
   have hno:¬ seenAt t (0:Nat) p<0/\seenAt t (0:Nat) p≠right:=by
    rw [fitsV_iff] at hfit
    constructor
    . intro h;exact hfit (.inl (by omega))
    . intro h;exact hfit (.inr h)
   have e0:srcT t p right=[]:=by
    unfold srcT
    rw [List.filter_eq_nil_iff]
    intro c _ hq
    unfold srcQ at hq
    rw [Bool.and_eq_true,decide_eq_true_eq] at hq
    exact hfit ((srcB_iff.1 hq.2).off 0 (by omega) (u0 c hq.1))
   rw [e0]
   obtain ⟨m,hm⟩:∃ m,fuel=m+1:=⟨fuel - 1,by omega⟩
   have e1:L47_0 fuel fuel (t,((p:Int),(right,()))) [] 1=L47_0 fuel (m+1) (t,((p:Int),(right,()))) [] 1:=by rw [hm]
   rw [e1,L47_0_succ]
   try delta lenI
   by_cases h1:(1:Int)<t.2.1.length
   . simp only [dT h1,inbT (show (0:Int)<=0 by omega) (show (0:Int)<t.2.1.length by omega),show (0:Int).toNat=0 from rfl,Int.toNat_natCast,inbT (show (0:Int)<=p by omega) (show (p:Int)<(t.2.1.getD 0 NODE0).2.1.length by omega),cond_true,es,dF hno.1,eF hno.2]
   . simp only [dF h1]
 have key:=runL1 (L:=fun n c=>L47_0 fuel n (t,((p:Int),(right,()))) ((allTo c).filter (srcQ t p right)) c) (len:=t.2.1.length) (lo:=1) (K:=.ret (srcT t p right)) (fun n c h0 hc=>?_) (fun n=>?_) (t.2.1.length - 1) fuel 1 (by omega) (by omega) (by omega)
 . rw [<- f1]
   exact key
 . try dsimp only
   have hfl:=filter_len (srcQ t p right) c
   have hcI:IsCopy t (c:Int):=⟨by omega,by omega⟩
   have inner:∀ (h0:0<c),L47_1 fuel n fuel (t,((p:Int),(right,()))) c ((allTo c).filter (srcQ t p right)) false 0=L47_0 fuel n (t,((p:Int),(right,()))) ((allTo (c+1)).filter (srcQ t p right)) ((c+1:Nat):Int):=fun h0=>by
    obtain ⟨met,hmet⟩:∃ met:Nat->Bool,∀ f,(met f=true<->∃ g:Nat,g<f/\(g:Int)≠right/\explT t p right c g):=⟨fun f => @decide (∃ g:Nat,g<f/\(g:Int)≠right/\explT t p right c g) (Classical.propDecidable _),fun f => @decide_eq_true_iff _ (Classical.propDecidable _)⟩
    have hm0:met 0=false:=by
     cases e:met 0 with
     | false=>rfl
     | true=>obtain ⟨g,h,_⟩:=(hmet 0).1 e;omega
    have go:=runL (L:=fun n1 f=>L47_1 fuel n n1 (t,((p:Int),(right,()))) c ((allTo c).filter (srcQ t p right)) (met f) f) (len:=10) (K:=L47_0 fuel n (t,((p:Int),(right,()))) ((allTo (c+1)).filter (srcQ t p right)) ((c+1:Nat):Int)) (fun n1 f hf=>?_) (fun n1=>?_) 10 fuel 0 (by omega) (by omega)
    . rw [hm0] at go
      exact go
    . try dsimp only
      rw [L47_1_succ]
      simp only [dT (show (f:Int)<=9 by omega),wn (show f<1000000000 by omega)]
      have hstep:met (f+1)=true<->met f=true\/((f:Int)≠right/\explT t p right c f):=by
       rw [hmet,hmet]
       constructor
       . rintro ⟨g,h1,h2⟩
         by_cases e:g=f
         . subst e;exact .inr h2
         . exact .inl ⟨g,by omega,h2⟩
       . rintro (⟨g,h1,h2⟩|h2)
         . exact ⟨g,by omega,h2⟩
         . exact ⟨f,by omega,h2⟩
      cases e:met f with
      | true =>
       simp only
       rw [hstep.2 (.inl e)]
      | false =>
       by_cases e2:(f:Int)=right
       . simp only [nF e2]
         rw [show met (f+1)=false by
          cases e3:met (f+1) with
          | false=>rfl
          | true =>
           rcases hstep.1 e3 with h|h
           . rw [e] at h;cases h
           . exact absurd e2 h.1]
       . obtain ⟨b,h1,h2⟩:=f84_at ht hp (right:=right) (c:=c) (f:=(f:Int))
         simp only [nT e2,h1]
         rw [show met (f+1)=b by
          cases b with
          | true=>exact hstep.2 (.inr ⟨e2,h2.1 rfl⟩)
          | false =>
           cases e3:met (f+1) with
           | false=>rfl
           | true =>
            rcases hstep.1 e3 with h|h
            . rw [e] at h;cases h
            . have:=h2.2 h.2;cases this]
    . try dsimp only
      rw [L47_1_succ]
      simp only [dF (show ¬ (((10:Nat):Int)<=9) by omega),wn (show c<1000000000 by omega)]
      rw [filter_succ]
      cases e:met 10 with
      | true =>
       have hq:srcQ t p right c=true:=by unfold srcQ;rw [dT (show (0:Int)<c by omega),srcB_iff.2 ((expl_iff ht hp hr).1 ((hmet 10).1 e))];rfl
       simp only [fitsT (xs:=(allTo c).filter (srcQ t p right)) (ys:=[(c:Int)]) (by simp only [List.length_cons,List.length_nil];omega),cond_true]
       rw [hq,if_pos rfl]
      | false =>
       have hq:srcQ t p right c=false:=by
        unfold srcQ
        cases e2:srcB t p right c with
        | false=>rw [Bool.and_false]
        | true =>
         have:=(hmet 10).2 ((expl_iff ht hp hr).2 (srcB_iff.1 e2))
         rw [e] at this;cases this
       simp only
       rw [hq,if_neg (by simp),List.append_nil]
   rw [L47_0_succ]
   try delta lenI
   simp only [dT (show (c:Int)<t.2.1.length by omega),inbT (show (0:Int)<=0 by omega) (show (0:Int)<t.2.1.length by omega),show (0:Int).toNat=0 from rfl,Int.toNat_natCast,inbT (show (0:Int)<=p by omega) (show (p:Int)<(t.2.1.getD 0 NODE0).2.1.length by omega),cond_true,es]
   by_cases g:seenAt t (0:Nat) p<0
   . simp only [dT g]
     exact inner h0
   . have g2:seenAt t (0:Nat) p=right:=by
      rcases fitsV_iff.1 hfit with e|e
      . omega
      . exact e
     simp only [dF g,eT g2]
     exact inner h0
 . try dsimp only
   rw [L47_0_succ]
   try delta lenI
   simp only [dF (show ¬ ((t.2.1.length:Nat):Int)<t.2.1.length by omega)]
   rfl
end Go.V
namespace Go.V
open Go.Proofs
@[irreducible] def f13v:lt1->Out Bool:=veil f13
theorem f13v_eq:f13v=f13:=by unfold f13v;exact veil_eq f13
def sp13v:Spec:=⟨13,.call,ty2,.bool,false,false,f13v⟩
theorem c13v:Contract Tryz.prog sp13v:=by
 unfold sp13v
 rw [f13v_eq]
 exact c13
@[irreducible] def f17v:lt1->Out Bool:=veil f17
theorem f17v_eq:f17v=f17:=by unfold f17v;exact veil_eq f17
def sp17v:Spec:=⟨17,.call,ty2,.bool,false,false,f17v⟩
theorem c17v:Contract Tryz.prog sp17v:=by
 unfold sp17v
 rw [f17v_eq]
 exact c17
@[irreducible] def f39v:lt4->Out Bool:=veil f39
theorem f39v_eq:f39v=f39:=by unfold f39v;exact veil_eq f39
def sp39v:Spec:=⟨39,.call,ty6,.bool,false,false,f39v⟩
theorem c39v:Contract Tryz.prog sp39v:=by
 unfold sp39v
 rw [f39v_eq]
 exact c39
@[irreducible] def f46v:(Int×Unit)->Out Bool:=veil f46
theorem f46v_eq:f46v=f46:=by unfold f46v;exact veil_eq f46
def sp46v:Spec:=⟨46,.call,(.prod (.int .i64) .unit),.bool,false,false,f46v⟩
theorem c46v:Contract Tryz.prog sp46v:=by
 unfold sp46v
 rw [f46v_eq]
 exact c46
@[irreducible] def f47v:lt6->Out (List Int):=veil f47
theorem f47v_eq:f47v=f47:=by unfold f47v;exact veil_eq f47
def sp47v:Spec:=⟨47,.call,ty9,(.list (.int .i64)),false,true,f47v⟩
theorem c47v:Contract Tryz.prog sp47v:=by
 unfold sp47v
 rw [f47v_eq]
 exact c47
end Go.V
namespace Go.V
open Go.Proofs
theorem b22:((2:Int)==2)=true:=rfl
theorem b55:((5:Int)==5)=true:=rfl
theorem b00:((0:Int)==0)=true:=rfl
theorem bl0:(lenI ([]:List Int)==(0:Int))=true:=rfl
theorem nt:(!true)=false:=rfl
theorem nf:(!false)=true:=rfl
theorem place_cases (t:TREE) (n:Int):(IsPlace t n/\decide (0<=n/\n<t.1)=true)\/(¬ IsPlace t n/\decide (0<=n/\n<t.1)=false):=by
 by_cases h:0<=n/\n<t.1
 . exact .inl ⟨⟨h.1,h.2⟩,dT h⟩
 . exact .inr ⟨fun h2=>h ⟨h2.l,h2.h⟩,dF h⟩
theorem IsPlace.nat {t:TREE} {n:Int} (h:IsPlace t n):∃ i:Nat,n=i/\(i:Int)<t.1:=⟨n.toNat,by have:=h.l;omega,by have:=h.l;have:=h.h;omega⟩
theorem TreeOK.small {t:TREE} (h:TreeOK t):t.2.1.length<1000000:=by have:=h.copies;omega
end Go.V
namespace Go.V
open Go.Proofs
def specs11:List Spec:=[sp13v,sp14v,sp45v,sp17v,sp39v,sp46v,sp47v,sp19v]
def hints11:List (Nat×List Nat):=[]
def F11 (N:Nat) (x:lt6):Out Bool:=match f13v (x.1,()) with | .ret r_1=>(match (!r_1) with|true=>(match f14v () with | .ret r=>.ret r | .pan p=>.pan p | .fail=>.fail)|false=>match f45v (x.1,(x.2.1,(x.2.2.1,()))) with | .ret r_5=>(match f17v (x.1,()) with | .ret r_7=>(match (!r_7) with|true=>(match (r_5.2.1==2) with|true=>(match ((lenI r_5.1)==0) with|true=>(match f14v () with | .ret r=>.ret r | .pan p=>.pan p | .fail=>.fail)|false=>.ret false)|false=>.ret false)|false=>match f39v (x.1,(x.2.1,())) with | .ret r_11=>(match (!r_11) with|true=>(match (r_5.2.1==2) with|true=>(match ((lenI r_5.1)==0) with|true=>(match f14v () with | .ret r=>.ret r | .pan p=>.pan p | .fail=>.fail)|false=>.ret false)|false=>.ret false)|false=>match f46v (x.2.2.1,()) with | .ret r_15=>(match (!r_15) with|true=>(match (r_5.2.1==2) with|true=>(match ((lenI r_5.1)==0) with|true=>(match f14v () with | .ret r=>.ret r | .pan p=>.pan p | .fail=>.fail)|false=>.ret false)|false=>.ret false)|false=>match f47v (x.1,(x.2.1,(x.2.2.1,()))) with | .ret r_19=>(match ((lenI r_19)==0) with|true=>(match (r_5.2.1==5) with|true=>(match ((lenI r_5.1)==0) with|true=>(match f14v () with | .ret r=>.ret r | .pan p=>.pan p | .fail=>.fail)|false=>.ret false)|false=>.ret false)|false=>match (r_5.2.1==0) with|true=>(match f19v (r_5.1,(r_19,())) with | .ret r_23=>(match r_23 with|true=>(match f14v () with | .ret r=>.ret r | .pan p=>.pan p | .fail=>.fail)|false=>.ret false) | .pan p=>.pan p | .fail=>.fail)|false=>.ret false) | .pan p=>.pan p | .fail=>.fail) | .pan p=>.pan p | .fail=>.fail) | .pan p=>.pan p | .fail=>.fail) | .pan p=>.pan p | .fail=>.fail) | .pan p=>.pan p | .fail=>.fail) | .pan p=>.pan p | .fail=>.fail
theorem e11 (N:Nat) (x:lt6):vfn Tryz.prog (phi specs11) hints11 N Tryz.f11 false false ty9 .bool x=F11 N x:=by kernel_rfl
def f11 (x:lt6):Out Bool:=F11 fuel x
def sp11:Spec:=⟨11,.call,ty9,.bool,false,false,f11⟩
theorem c11:Contract Tryz.prog sp11:=contract_at (l:=specs11) (arg:=ty9) (res:=.bool) (multi:=false) (own:=false) (F:=f11) mixed (all_cons c13v (all_cons c14v (all_cons c45v (all_cons c17v (all_cons c39v (all_cons c46v (all_cons c47v (all_cons c19v all_nil)))))))) Tryz.func11 rfl hints11 fun x _=>⟨fuel,e11 fuel x⟩
end Go.V
namespace Go.V
open Go.Proofs
theorem law11 (t:TREE) (a b:Int):f11 (t,(a,(b,()))) = .ret true:=by
 show F11 fuel (t,(a,(b,())))=_
 unfold F11
 obtain ⟨c,h13⟩:=f13_at t
 simp only [f13v_eq,f45v_eq,f17v_eq,f39v_eq,f46v_eq,f47v_eq,f19v_eq,h13]
 cases c with
 | false=>simp only [nf,known_true]
 | true =>
  simp only [nt]
  by_cases ht:TreeOK t
  rotate_left
  . simp only [f45_no (t:=t) (p:=a) (right:=b) fun h=>ht h.1,no17 ht,nf,b22,bl0,known_true]
  simp only [ht.t17,nt,f39_at ht]
  rcases place_cases t a with ⟨ha,ea⟩|⟨ha,ea⟩
  rotate_left
  . simp only [ea,nf,f45_no (t:=t) (p:=a) (right:=b) fun h=>ha h.2.1,b22,bl0,known_true]
  simp only [ea,nt,i46]
  by_cases hb:0<=b/\b<=9
  rotate_left
  . simp only [dF hb,nf,f45_no (t:=t) (p:=a) (right:=b) fun h=>hb h.2.2,b22,bl0,known_true]
  obtain ⟨p,rfl,hp⟩:=ha.nat
  have hl:=filter_len (srcQ t p b) t.2.1.length
  have hs:=ht.small
  simp only [dT hb,nt,f45_at ht hp hb,f47_at ht hp hb]
  by_cases h:srcT t p b=[]
  . simp only [h,if_true,bl0,b55,known_true]
  . have hn:0<(srcT t p b).length:=List.length_pos_iff.2 h
    have e:(lenI (srcT t p b)==(0:Int))=false:=eF (show ((srcT t p b).length:Int)≠0 by omega)
    have hl2:(srcT t p b).length<1000000:=by unfold srcT;omega
    simp only [if_neg h,e,b00,f19_at (srcT t p b) (srcT t p b) hl2,decide_true,known_true]
end Go.V
end
