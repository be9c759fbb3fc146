/- Part. -/
import Derived.Test.YtmkbnifehdhbbabGreatDoorQL
import Derived.Test.YtmkbnifehdhbbabGreatDoorCR2
import Derived.Test.YtmkbnifehdhbbabGreatDoorCRA
import Derived.Lib.ItoaLen
import Derived.Laws.RangeString
import Derived.Laws.RangeAny
import Derived.Laws.IdiomStrings
set_option linter.all false
noncomputable section
namespace Go.V
open Go.Proofs
def WX:=@List.getD_eq_getElem?_getD
def W_:=@aj
def W7:=@List.getElem?_eq_getElem
def ZB:List Spec:=[]
def Zb:List (Nat×List Nat):=[(2,[1,3])]
def L13_0 (N n0:Nat) (x:aS) (i_1:Int):Out Bool :=
 bS Tryz.prog (ah ZB) Zb N Tryz.f12 false false .bool [.at 1,.at 0,.at 1,.at 0] n0 [U,.box [.d (.int .i64) x.1.1,.d ba x.1.2.1],U,.d (.int .i64) i_1,U,U,U,U,U,U,U,U,U,U,U,U,U,U,U,U,U,U,U,U,U,U,U]
theorem L13_0_succ (N n0:Nat) (x:aS) (i_1:Int):L13_0 N  (n0+1) x i_1 =
 (match (decide (i_1<(ae x.1.2.1))) with|true=>(match (decide (i_1<10)) with|true=>bif (ax i_1 x.1.2.1.length) then match (decide ((ae ((List.getD x.1.2.1 i_1.toNat (0,([],())))).2.1) > 5)) with|true=>.ret false|false=>L13_0 N n0 x (IntKind.i64.wrap (i_1+1)) else .fail|false=>.ret (decide ((ae x.1.2.1)<=10)))|false=>.ret (decide ((ae x.1.2.1)<=10)):Out Bool):=by kernel_rfl
def YS (N:Nat) (x:aS):Out Bool:=L13_0 N N x 0
theorem e13 (N:Nat) (x:aS):aW Tryz.prog (ah ZB) Zb N Tryz.f12 false false cB .bool x=YS N x:=by kernel_rfl
def f13 (x:aS):Out Bool:=YS fuel x
def Z':Spec:=⟨12,.call,cB,.bool,false,false,f13⟩
theorem c13:am Tryz.prog Z':=bi (l:=ZB) (arg:=cB) (res:=.bool) (multi:=false) (own:=false) (F:=f13) mixed aO Tryz.func12 rfl Zb fun x _=>⟨fuel,e13 fuel x⟩
def Yl:List Spec:=[]
def Yd:List (Nat×List Nat):=[]
theorem Y5 (N:Nat) (x:(Int×(Int×(Int×Unit)))):aW Tryz.prog (ah Yl) Yd N Tryz.f60 false false kt .bool x=Da N x:=by kernel_rfl
theorem X5:am Tryz.prog V1:=bi (l:=Yl) (arg:=kt) (res:=.bool) (multi:=false) (own:=false) (F:=kT) mixed aO Tryz.func60 rfl Yd fun x _=>⟨fuel,Y5 fuel x⟩
theorem L114_0_succ (N n0:Nat) (x:((List UInt8)×(Bool×Unit))) (out_3:(List Int)) (t13_4:Nat):L114_0 N  (n0+1) x out_3 t13_4 =
 (match (decide (t13_4<x.1.length)) with|true=>bif (decide (t13_4<x.1.length)) then match x.2.1 with|true=>(match ((uC x.1 t13_4)==63) with|true=>bif (bQ out_3 ([(-1)]:List Int)) then L114_0 N n0 x (out_3++([(-1)]:List Int)) (qN x.1 t13_4) else .fail|false=>match (decide ((uC x.1 t13_4) >= 48)) with|true=>(match f113 ((decide ((uC x.1 t13_4)<=57)),(x.1,())) with | .ret r_5=>bif (bQ out_3 ([(IntKind.i64.wrap (IntKind.i32.wrap ((uC x.1 t13_4) - 48)))]:List Int)) then L114_0 N n0 x (out_3++([(IntKind.i64.wrap (IntKind.i32.wrap ((uC x.1 t13_4) - 48)))]:List Int)) (qN x.1 t13_4) else .fail | .pan p=>.pan p | .fail=>.fail)|false=>match f113 (false,(x.1,())) with | .ret r_7=>bif (bQ out_3 ([(IntKind.i64.wrap (IntKind.i32.wrap ((uC x.1 t13_4) - 48)))]:List Int)) then L114_0 N n0 x (out_3++([(IntKind.i64.wrap (IntKind.i32.wrap ((uC x.1 t13_4) - 48)))]:List Int)) (qN x.1 t13_4) else .fail | .pan p=>.pan p | .fail=>.fail)|false=>match (decide ((uC x.1 t13_4) >= 48)) with|true=>(match f113 ((decide ((uC x.1 t13_4)<=57)),(x.1,())) with | .ret r_9=>bif (bQ out_3 ([(IntKind.i64.wrap (IntKind.i32.wrap ((uC x.1 t13_4) - 48)))]:List Int)) then L114_0 N n0 x (out_3++([(IntKind.i64.wrap (IntKind.i32.wrap ((uC x.1 t13_4) - 48)))]:List Int)) (qN x.1 t13_4) else .fail | .pan p=>.pan p | .fail=>.fail)|false=>match f113 (false,(x.1,())) with | .ret r_11=>bif (bQ out_3 ([(IntKind.i64.wrap (IntKind.i32.wrap ((uC x.1 t13_4) - 48)))]:List Int)) then L114_0 N n0 x (out_3++([(IntKind.i64.wrap (IntKind.i32.wrap ((uC x.1 t13_4) - 48)))]:List Int)) (qN x.1 t13_4) else .fail | .pan p=>.pan p | .fail=>.fail else .fail|false=>.ret out_3:Out (List Int)):=by kernel_rfl
def Yk:List Spec:=[V1]
def Yc:List (Nat×List Nat):=[]
theorem Y4 (N:Nat) (x:(Int×Unit)):aW Tryz.prog (ah Yk) Yc N Tryz.f31 false false (.prod (.int .i64) .unit) .bool x=C8 N x:=by kernel_rfl
theorem X4:am Tryz.prog IA:=bi (l:=Yk) (arg:=(.prod (.int .i64) .unit)) (res:=.bool) (multi:=false) (own:=false) (F:=f46) mixed (all_cons X5 aO) Tryz.func31 rfl Yc fun x _=>⟨fuel,Y4 fuel x⟩
theorem L130a_0_succ (N n0:Nat) (x:(Int×Unit)) (out_1:(List UInt8)) (t36_2:(List Int)) (t38_3:Int):L130a_0 N  (n0+1) x out_1 t36_2 t38_3 =
 (match (decide (t38_3<(ae ([x.1]:List Int)))) with|true=>bif (ax t38_3 t36_2.length) then match P' ((List.getD t36_2 t38_3.toNat 0),()) with | .ret r_4=>bif (decide (([32]:List UInt8).length+r_4.length<1000000)) then bif (decide (out_1.length+(([32]:List UInt8)++r_4).length<1000000)) then L130a_0 N n0 x (out_1++(([32]:List UInt8)++r_4)) t36_2 (IntKind.i64.wrap (t38_3+1)) else .fail else .fail | .pan p=>.pan p | .fail=>.fail else .fail|false=>bif (decide (out_1.length+([]:List UInt8).length<1000000)) then .ret (out_1++([]:List UInt8)) else .fail:Out (List UInt8)):=by kernel_rfl
def L130b_1 (N n1:Nat) (figures_1:(List UInt8)) (x:lp) (out_5:(List UInt8)) (t36_6:(List Int)) (t38_7:Int):Out (List UInt8) :=
 bS Tryz.prog (ah Bv) yZ N Tryz.f105 false false .str [.at 1,.at 1,.at 1,.at 1,.at 0,.at 1,.at 0] n1 [U,U,U,U,.d .str figures_1,U,U,U,.d .str out_5,U,U,U,U,U,U,U,U,U,U,U,U,U,U,U,U,U,U,U,U,U,U,U,U,U,U,U,.own (.int .i64) t36_6 false,.d (.int .i64) (ae ([x.1.1.1]:List Int)),.d (.int .i64) t38_7,U,U,U,U,U,U,U,U,U,U,U,U]
theorem L130b_1_succ (N n1:Nat) (figures_1:(List UInt8)) (x:lp) (out_5:(List UInt8)) (t36_6:(List Int)) (t38_7:Int):L130b_1 N  (n1+1) figures_1 x out_5 t36_6 t38_7 =
 (match (decide (t38_7<(ae ([x.1.1.1]:List Int)))) with|true=>bif (ax t38_7 t36_6.length) then match P' ((List.getD t36_6 t38_7.toNat 0),()) with | .ret r_8=>bif (decide (([32]:List UInt8).length+r_8.length<1000000)) then bif (decide (out_5.length+(([32]:List UInt8)++r_8).length<1000000)) then L130b_1 N n1 figures_1 x (out_5++(([32]:List UInt8)++r_8)) t36_6 (IntKind.i64.wrap (t38_7+1)) else .fail else .fail | .pan p=>.pan p | .fail=>.fail else .fail|false=>bif (decide (out_5.length+figures_1.length<1000000)) then .ret (out_5++figures_1) else .fail:Out (List UInt8)):=by kernel_rfl
theorem L130b_0_succ (N n0:Nat) (x:lp) (figures_1:(List UInt8)) (t19_2:Int):L130b_0 N  (n0+1) x figures_1 t19_2 =
 (match (decide (t19_2<(ae x.1.1.2.1))) with|true=>bif (ax t19_2 x.1.1.2.1.length) then match ((List.getD x.1.1.2.1 t19_2.toNat 0)==(-1)) with|true=>bif (decide (figures_1.length+([63]:List UInt8).length<1000000)) then L130b_0 N n0 x (figures_1++([63]:List UInt8)) (IntKind.i64.wrap (t19_2+1)) else .fail|false=>match P' ((List.getD x.1.1.2.1 t19_2.toNat 0),()) with | .ret r_3=>bif (decide (figures_1.length+r_3.length<1000000)) then L130b_0 N n0 x (figures_1++r_3) (IntKind.i64.wrap (t19_2+1)) else .fail | .pan p=>.pan p | .fail=>.fail else .fail|false=>L130b_1 N N figures_1 x ([99,111,112,121]:List UInt8) ([x.1.1.1]:List Int) 0:Out (List UInt8)):=by kernel_rfl
theorem Y1 (N:Nat) (x:aS):aW Tryz.prog (ah IU) FW N Tryz.f15 false false cB .bool x=C4 N x:=by kernel_rfl
def YL:Spec:=⟨15,.call,cB,.bool,false,false,f17⟩
theorem YX:am Tryz.prog YL:=bi (l:=IU) (arg:=cB) (res:=.bool) (multi:=false) (own:=false) (F:=f17) mixed (all_cons X5 (all_cons X4 aO)) Tryz.func15 rfl FW fun x _=>⟨fuel,Y1 fuel x⟩
def aaa:List Spec:=[Z',YL]
def Z1:List (Nat×List Nat):=[]
def YT (N:Nat) (x:aS):Out Bool:=match f13 (x.1,()) with | .ret r_1=>(match r_1 with|true=>(match f17 (x.1,()) with | .ret r=>.ret r | .pan p=>.pan p | .fail=>.fail)|false=>.ret false) | .pan p=>.pan p | .fail=>.fail
theorem e22 (N:Nat) (x:aS):aW Tryz.prog (ah aaa) Z1 N Tryz.f19 false false cB .bool x=YT N x:=by kernel_rfl
def XE (x:aS):Out Bool:=YT fuel x
def abl:Spec:=⟨19,.call,cB,.bool,false,false,XE⟩
theorem c22:am Tryz.prog abl:=bi (l:=aaa) (arg:=cB) (res:=.bool) (multi:=false) (own:=false) (F:=XE) mixed (all_cons c13 (all_cons YX aO)) Tryz.func19 rfl Z1 fun x _=>⟨fuel,e22 fuel x⟩
def L115_2 (N n1 n2:Nat) (t32_9:Int) (rows_3:(List (List UInt8))) (rows_10:(List (List UInt8))) (check_11:Int) (t39_12:Int):Out (List UInt8) :=
 bS Tryz.prog (ah Br) yV N Tryz.f73 false false .str [.at 1,.at 1,.at 1,.at 1,.at 0,.at 1,.at 0,.at n1,.at 1,.at 1,.at 0,.at 0,.at 1,.at 1,.at 0] n2 [U,U,U,.own .str rows_10 false,U,U,.d (.int .i64) check_11,.d (.int .i64) t32_9,.d .str (List.getD rows_3 t32_9.toNat ([]:List UInt8)),U,U,U,U,U,U,U,U,U,U,U,U,U,U,U,U,U,U,U,U,U,.d (.list .str) rows_3,.d (.int .i64) (ae rows_3),.d (.int .i64) t32_9,U,U,U,U,U,.d (.int .i64) (ae (List.getD rows_3 t32_9.toNat ([]:List UInt8))),.d (.int .i64) t39_12,U,U,U,U,U,U,U,U,U,U,U,U,U,U,U,U,U,U,U,U,U,U,U,U,U,U,U,U,U,U,U,U,U,U,U,U,U]
def L115_1 (N n1:Nat) (rows_3:(List (List UInt8))) (rows_7:(List (List UInt8))) (check_8:Int) (t32_9:Int):Out (List UInt8) :=
 bS Tryz.prog (ah Br) yV N Tryz.f73 false false .str [.at 1,.at 1,.at 1,.at 1,.at 0,.at 1,.at 0] n1 [U,U,U,.own .str rows_7 false,U,U,.d (.int .i64) check_8,U,U,U,U,U,U,U,U,U,U,U,U,U,U,U,U,U,U,U,U,U,U,U,.d (.list .str) rows_3,.d (.int .i64) (ae rows_3),.d (.int .i64) t32_9,U,U,U,U,U,U,U,U,U,U,U,U,U,U,U,U,U,U,U,U,U,U,U,U,U,U,U,U,U,U,U,U,U,U,U,U,U,U,U,U,U,U,U,U]
theorem L115_2_succ (N n1 n2:Nat) (t32_9:Int) (rows_3:(List (List UInt8))) (rows_10:(List (List UInt8))) (check_11:Int) (t39_12:Int):L115_2 N n1 (n2+1) t32_9 rows_3 rows_10 check_11 t39_12 =
 (match (decide (t39_12<(ae (List.getD rows_3 t32_9.toNat ([]:List UInt8))))) with|true=>bif (ax t39_12 (List.getD rows_3 t32_9.toNat ([]:List UInt8)).length) then L115_2 N n1 n2 t32_9 rows_3 rows_10 (IntKind.i64.wrap (check_11+(IntKind.i64.wrap ((IntKind.i64.wrap ((IntKind.i64.wrap (oU (List.getD rows_3 t32_9.toNat ([]:List UInt8)) t39_12)) * (IntKind.i64.wrap (t39_12+1)))) * (IntKind.i64.wrap (t32_9+1)))))) (IntKind.i64.wrap (t39_12+1)) else .fail|false=>L115_1 N n1 rows_3 rows_10 check_11 (IntKind.i64.wrap (t32_9+1)):Out (List UInt8)):=by kernel_rfl
theorem L115_1_succ (N n1:Nat) (rows_3:(List (List UInt8))) (rows_7:(List (List UInt8))) (check_8:Int) (t32_9:Int):L115_1 N  (n1+1) rows_3 rows_7 check_8 t32_9 =
 (match (decide (t32_9<(ae rows_3))) with|true=>bif (ax t32_9 rows_3.length) then L115_2 N n1 N t32_9 rows_3 rows_7 check_8 0 else .fail|false=>match P' ((IntKind.i64.wrap ((check_8.tmod 257).tdiv 100)),()) with | .ret r_13=>bif (decide (([101,110,100,32]:List UInt8).length+r_13.length<1000000)) then match P' (((IntKind.i64.wrap ((check_8.tmod 257).tdiv 10)).tmod 10),()) with | .ret r_15=>bif (decide ((([101,110,100,32]:List UInt8)++r_13).length+r_15.length<1000000)) then match P' (((check_8.tmod 257).tmod 10),()) with | .ret r_17=>bif (decide (((([101,110,100,32]:List UInt8)++r_13)++r_15).length+r_17.length<1000000)) then bif (bQ rows_7 ([(((([101,110,100,32]:List UInt8)++r_13)++r_15)++r_17)]:List (List UInt8))) then match f132 ((rows_7++([(((([101,110,100,32]:List UInt8)++r_13)++r_15)++r_17)]:List (List UInt8))),(([10]:List UInt8),())) with | .ret r_19=>bif (decide (r_19.length+([10]:List UInt8).length<1000000)) then .ret (r_19++([10]:List UInt8)) else .fail | .pan p=>.pan p | .fail=>.fail else .fail else .fail | .pan p=>.pan p | .fail=>.fail else .fail | .pan p=>.pan p | .fail=>.fail else .fail | .pan p=>.pan p | .fail=>.fail:Out (List UInt8)):=by kernel_rfl
theorem L115_0_succ (N n0:Nat) (x:aS) (rows_3:(List (List UInt8))) (t18_4:Int):L115_0 N  (n0+1) x rows_3 t18_4 =
 (match (decide (t18_4<(ae x.1.2.1))) with|true=>bif (ax t18_4 x.1.2.1.length) then match EU (((((List.getD x.1.2.1 t18_4.toNat (0,([],())))).1,(((List.getD x.1.2.1 t18_4.toNat (0,([],())))).2.1,())),()),()) with | .ret r_5=>bif (bQ rows_3 ([r_5]:List (List UInt8))) then L115_0 N n0 x (rows_3++([r_5]:List (List UInt8))) (IntKind.i64.wrap (t18_4+1)) else .fail | .pan p=>.pan p | .fail=>.fail else .fail|false=>L115_1 N N rows_3 rows_3 0 0:Out (List UInt8)):=by kernel_rfl
theorem aaP (t:ac):∃ b,f13 (t,()) = .ret b:=by
 have hfb:=bK;unfold f13 YS;have done:∀ n i:Nat,¬ (i:Int)<t.2.1.length\/¬ i<10->∃ b,L13_0 fuel (n+1) (t,()) i = .ret b:=fun n i h=>by
  rw [L13_0_succ]
  try delta ae
  by_cases h1:(i:Int)<t.2.1.length
  . have h2:¬ (i:Int)<10:=by rcases h with h|h<;>omega
    simp only [dT h1,dF h2];exact ⟨_,rfl⟩
  . simp only [dF h1];exact ⟨_,rfl⟩
 have loop:∀ (d n i:Nat),d<n->i+d=10->∃ b,L13_0 fuel n (t,()) i = .ret b:=by
  intro d
  induction d with
  | zero =>
   intro n i hn hi;obtain ⟨n,rfl⟩:=ks hn;exact done n i (.inr (by omega))
  | succ d ih =>
   intro n i hn hi;obtain ⟨n,rfl⟩:=ks hn
   by_cases h1:(i:Int)<t.2.1.length
   . rw [L13_0_succ]
     try delta ae
     simp only [dT h1,dT (show (i:Int)<10 by omega),aY (show (0:Int)<=i by omega) h1,cond_true,wn (show i<1000000000 by omega)];split
     . exact ⟨_,rfl⟩
     . exact ih n (i+1) (by omega) (by omega)
   . exact done n i (.inl h1)
 exact loop 10 fuel 0 (by omega) (by omega)
theorem aaQ (t:ac):XE (t,()) = .ret false\/(XE (t,()) = .ret true/\TreeOK t):=by
 obtain ⟨b,h⟩:=aaP t;unfold XE YT;cases b with
 | false=>simp only [h];exact .inl trivial
 | true =>
  simp only [h];rcases Wg (t:=t) with ⟨h1,h2,_⟩|⟨h1,h2,_⟩
  . simp only [h2];exact .inr ⟨trivial,h1⟩
  . simp only [h2];exact .inl trivial
theorem L90_0_succ (N n0:Nat) (x:gU) (r_1:(List (List UInt8))) (t2_13:Int) (t2_14:(List (Int×aE))) (t_15:Int) (t_16:(List (Int×aE))) (t46_17:Int):L90_0 N  (n0+1) x r_1 t2_13 t2_14 t_15 t_16 t46_17 =
 (match (decide (t46_17<(ae (cut r_1 1 (IntKind.i64.wrap ((ae r_1) - 2)))))) with|true=>bif (ax t46_17 (cut r_1 1 (IntKind.i64.wrap ((ae r_1) - 2))).length) then match f112 ((List.getD (cut r_1 1 (IntKind.i64.wrap ((ae r_1) - 2))) t46_17.toNat ([]:List UInt8)),(([32]:List UInt8),())) with | .ret r_18=>(match f113 (((ae r_18)==3),((List.getD (cut r_1 1 (IntKind.i64.wrap ((ae r_1) - 2))) t46_17.toNat ([]:List UInt8)),())) with | .ret r_20=>bif (ax 1 r_18.length) then match f114 ((List.getD r_18 (1:Int).toNat ([]:List UInt8)),(false,())) with | .ret r_22=>(match f113 (((ae r_22)==1),((List.getD (cut r_1 1 (IntKind.i64.wrap ((ae r_1) - 2))) t46_17.toNat ([]:List UInt8)),())) with | .ret r_24=>bif (ax 0 r_22.length) then bif (ax 2 r_18.length) then match f114 ((List.getD r_18 (2:Int).toNat ([]:List UInt8)),(true,())) with | .ret r_26=>bif (bQ t_16 ([((List.getD r_22 (0:Int).toNat 0),(r_26,()))]:List (Int×aE))) then L90_0 N n0 x r_1 t2_13 t2_14 t_15 (t_16++([((List.getD r_22 (0:Int).toNat 0),(r_26,()))]:List (Int×aE))) (IntKind.i64.wrap (t46_17+1)) else .fail | .pan p=>.pan p | .fail=>.fail else .fail else .fail | .pan p=>.pan p | .fail=>.fail) | .pan p=>.pan p | .fail=>.fail else .fail | .pan p=>.pan p | .fail=>.fail) | .pan p=>.pan p | .fail=>.fail else .fail|false=>match f115 ((t_15,(t_16,())),()) with | .ret r_28=>(match f113 ((r_28==x.1),(x.1,())) with | .ret r_30=>.ret (t_15,(t_16,())) | .pan p=>.pan p | .fail=>.fail) | .pan p=>.pan p | .fail=>.fail:Out (Int×qA)):=by kernel_rfl
@[irreducible] def YB:aS->Out Bool:=dG XE
theorem ZS:YB=XE:=by unfold YB;exact dR XE
def Zv:Spec:=⟨19,.call,cB,.bool,false,false,YB⟩
theorem ZJ:am Tryz.prog Zv:=by
 unfold Zv
 rw [ZS]
 exact c22
theorem n00:((0:Int) != 0)=false:=rfl
theorem nt:(!true)=false:=rfl
theorem nf:(!false)=true:=rfl
def Yi:List Spec:=[dr,Ir]
def Yb:List (Nat×List Nat):=[]
def XI (N:Nat) (x:aS):Out ((List UInt8)×(Int×Unit)):=match f55 (x.1,()) with | .ret r_1=>(match (!r_1) with|true=>.ret (([]:List UInt8),(2,()))|false=>match f115 (x.1,()) with | .ret r_3=>.ret (r_3,(0,())) | .pan p=>.pan p | .fail=>.fail) | .pan p=>.pan p | .fail=>.fail
theorem Y2 (N:Nat) (x:aS):aW Tryz.prog (ah Yi) Yb N Tryz.f38 true false cB (.prod .str (.prod (.int .i64) .unit)) x=XI N x:=by kernel_rfl
def Xf (x:aS):Out ((List UInt8)×(Int×Unit)):=XI fuel x
def Zw:Spec:=⟨38,.call,cB,(.prod .str (.prod (.int .i64) .unit)),true,false,Xf⟩
theorem YY:am Tryz.prog Zw:=bi (l:=Yi) (arg:=cB) (res:=(.prod .str (.prod (.int .i64) .unit))) (multi:=true) (own:=false) (F:=Xf) mixed (all_cons dh (all_cons D8 aO)) Tryz.func38 rfl Yb fun x _=>⟨fuel,Y2 fuel x⟩
def XT:List Spec:=[Iy]
def XK:List (Nat×List Nat):=[(4,[2,3,5])]
def L41n_0 (N n0:Nat) (x:((Int×((List (Int×((List Int)×Unit)))×Unit))×((Int×((List (Int×((List Int)×Unit)))×Unit))×Unit))) (i_1:Int):Out Bool :=
 bS Tryz.prog (ah XT) XK N Tryz.f41 false false .bool [.at 1,.at 1,.at 0,.at 1,.at 0] n0 [U,U,.box [.d (.int .i64) x.1.1,.d ba x.1.2.1],.box [.d (.int .i64) x.2.1.1,.d ba x.2.1.2.1],U,.d (.int .i64) i_1,U,U,U,U,U,U,U,U,U,U,U,U,U,U,U,U,U,U,U,U,U,U,U,U,U,U,U,U,U,U,U,U,U,U,U,U,U,U,U,U,U,U,U,U,U,U,U,U,U,U]
theorem L41n_0_succ (N n0:Nat) (x:((Int×((List (Int×((List Int)×Unit)))×Unit))×((Int×((List (Int×((List Int)×Unit)))×Unit))×Unit))) (i_1:Int):L41n_0 N  (n0+1) x i_1 =
 (match (decide (i_1<(ae x.1.2.1))) with|true=>bif (ax i_1 x.1.2.1.length) then bif (ax i_1 x.2.1.2.1.length) then match (((List.getD x.1.2.1 i_1.toNat (0,([],())))).1 != ((List.getD x.2.1.2.1 i_1.toNat (0,([],())))).1) with|true=>.ret false|false=>bif (ax i_1 x.1.2.1.length) then bif (ax i_1 x.2.1.2.1.length) then match f19 (((List.getD x.1.2.1 i_1.toNat (0,([],())))).2.1,(((List.getD x.2.1.2.1 i_1.toNat (0,([],())))).2.1,())) with | .ret r_2=>(match (!r_2) with|true=>.ret false|false=>L41n_0 N n0 x (IntKind.i64.wrap (i_1+1))) | .pan p=>.pan p | .fail=>.fail else .fail else .fail else .fail else .fail|false=>.ret true:Out Bool):=by kernel_rfl
def XB (N:Nat) (x:((Int×((List (Int×((List Int)×Unit)))×Unit))×((Int×((List (Int×((List Int)×Unit)))×Unit))×Unit))):Out Bool:=match (x.1.1 != x.2.1.1) with|true=>.ret false|false=>match ((ae x.1.2.1) != (ae x.2.1.2.1)) with|true=>.ret false|false=>L41n_0 N N x 0
theorem Y3 (N:Nat) (x:((Int×((List (Int×((List Int)×Unit)))×Unit))×((Int×((List (Int×((List Int)×Unit)))×Unit))×Unit))):aW Tryz.prog (ah XT) XK N Tryz.f41 false false (.prod (.prod (.int .i64) (.prod (.list (.prod (.int .i64) (.prod (.list (.int .i64)) .unit))) .unit)) (.prod (.prod (.int .i64) (.prod (.list (.prod (.int .i64) (.prod (.list (.int .i64)) .unit))) .unit)) .unit)) .bool x=XB N x:=by kernel_rfl
def Xb (x:((Int×((List (Int×((List Int)×Unit)))×Unit))×((Int×((List (Int×((List Int)×Unit)))×Unit))×Unit))):Out Bool:=XB fuel x
def Zx:Spec:=⟨41,.call,(.prod (.prod (.int .i64) (.prod (.list (.prod (.int .i64) (.prod (.list (.int .i64)) .unit))) .unit)) (.prod (.prod (.int .i64) (.prod (.list (.prod (.int .i64) (.prod (.list (.int .i64)) .unit))) .unit)) .unit)),.bool,false,false,Xb⟩
theorem YZ:am Tryz.prog Zx:=bi (l:=XT) (arg:=(.prod (.prod (.int .i64) (.prod (.list (.prod (.int .i64) (.prod (.list (.int .i64)) .unit))) .unit)) (.prod (.prod (.int .i64) (.prod (.list (.prod (.int .i64) (.prod (.list (.int .i64)) .unit))) .unit)) .unit))) (res:=.bool) (multi:=false) (own:=false) (F:=Xb) mixed (all_cons D' aO) Tryz.func41 rfl XK fun x _=>⟨fuel,Y3 fuel x⟩
@[irreducible] def Xw:aS->Out ((List UInt8)×(Int×Unit)):=dG Xf
theorem X8:Xw=Xf:=by unfold Xw;exact dR Xf
def XR:Spec:=⟨38,.call,cB,(.prod .str (.prod (.int .i64) .unit)),true,false,Xw⟩
theorem Yt:am Tryz.prog XR:=by
 unfold XR
 rw [X8]
 exact YY
@[irreducible] def Xm:((Int×((List (Int×((List Int)×Unit)))×Unit))×((Int×((List (Int×((List Int)×Unit)))×Unit))×Unit))->Out Bool:=dG Xb
theorem X9:Xm=Xb:=by unfold Xm;exact dR Xb
def XS:Spec:=⟨41,.call,(.prod (.prod (.int .i64) (.prod (.list (.prod (.int .i64) (.prod (.list (.int .i64)) .unit))) .unit)) (.prod (.prod (.int .i64) (.prod (.list (.prod (.int .i64) (.prod (.list (.int .i64)) .unit))) .unit)) .unit)),.bool,false,false,Xm⟩
theorem Yu:am Tryz.prog XS:=by
 unfold XS
 rw [X9]
 exact YZ
theorem ZG {n p:Int} (hp:0<p) {B:Int} (h1 : -B<=n) (h2:n<=B) : -B<=n.tdiv p/\n.tdiv p<=B:=by
 have:=Int.natAbs_tdiv_le_natAbs n p;omega
theorem Xe (n:Int) (h1 : -1000000<=n) (h2:n<=1000000):P' (n,()) = .ret (Lib.itoa n):=by
 unfold P';simp only [dT (show -9223372036854775808<=n by omega),dT (show n<=9223372036854775807 by omega),Bool.and_self,cond_true]
theorem Xc {u:Nat} (h:u<10):Lib.decDigits u=[UInt8.ofNat (48+u)]:=by rw [Lib.decDigits,dif_pos h]
theorem XX {u:Nat} (h:¬ u<10):Lib.decDigits u=Lib.decDigits (u / 10)++[UInt8.ofNat (48+u % 10)]:=by rw [Lib.decDigits,dif_neg h]
theorem XC:∀ (k u:Nat),u<10 ^ (k+1)->(Lib.decDigits u).length<=k+1
 | 0,u,h=>by rw [Xc (by simpa using h)];simp
 | k+1,u,h=>by
  by_cases c:u<10
  . rw [Xc c];simp
  . rw [XX c,List.length_append];have:=XC k (u / 10) (by rw [Nat.pow_succ] at h;omega);simp;omega
theorem Ye (u:Nat):Lib.itoa (u:Int)=Lib.decDigits u:=by unfold Lib.itoa;rw [if_neg (by omega)];simp
theorem XM {n:Int} (h1 : -1000000<n) (h2:n<1000000):(Lib.itoa n).length<=7:=by
 unfold Lib.itoa;split
 . have:=XC 5 n.natAbs (by omega);rw [List.length_cons];omega
 . have:=XC 5 n.toNat (by omega);omega
def Xj (i:Int):Int->Int->List UInt8->Int
 | _,c,[]=>c
 | k,c,b :: bs=>Xj i (k+1) (IntKind.i64.wrap (c+(IntKind.i64.wrap ((IntKind.i64.wrap ((IntKind.i64.wrap ((b.toNat:Nat):Int)) * (IntKind.i64.wrap (k+1)))) * (IntKind.i64.wrap (i+1)))))) bs
def W0:Int->Int->List (List UInt8)->Int
 | _,c,[]=>c
 | i,c,r :: rs=>W0 (i+1) (Xj i 0 c r) rs
theorem X6 (i k c:Int) (b:UInt8) (bs:List UInt8):Xj i k c (b :: bs)=Xj i (k+1) (IntKind.i64.wrap (c+(IntKind.i64.wrap ((IntKind.i64.wrap ((IntKind.i64.wrap ((b.toNat:Nat):Int)) * (IntKind.i64.wrap (k+1)))) * (IntKind.i64.wrap (i+1)))))) bs:=rfl
def WW (c:Int):List UInt8:=[101,110,100,32]++Lib.itoa (IntKind.i64.wrap ((c.tmod 257).tdiv 100))++Lib.itoa ((IntKind.i64.wrap ((c.tmod 257).tdiv 10)).tmod 10)++Lib.itoa ((c.tmod 257).tmod 10)
def WT (rows:List (List UInt8)):List UInt8:=(rows.map (· ++ [10])).flatten++WW (W0 0 0 rows)++[10]
theorem Yw {r:List UInt8} {k:Int} (h1:0<=k) (h2:k<r.length):r.drop k.toNat=List.getD r k.toNat 0 :: r.drop (k+1).toNat:=by
 have h3:k.toNat<r.length:=by omega
 have e:(k+1).toNat=k.toNat+1:=by omega
 rw [List.drop_eq_getElem_cons h3,e,WX,W7 h3];rfl
theorem Yx {rows:List (List UInt8)} {i:Int} (h1:0<=i) (h2:i<rows.length):rows.drop i.toNat=List.getD rows i.toNat ([]:List UInt8) :: rows.drop (i+1).toNat:=by
 have h3:i.toNat<rows.length:=by omega
 have e:(i+1).toNat=i.toNat+1:=by omega
 rw [List.drop_eq_getElem_cons h3,e,WX,W7 h3];rfl
theorem XV (n p:Int) (hp:0<p) : -p<n.tmod p/\n.tmod p<p:=by
 have a:=Int.tmod_lt_of_pos n hp;have b:=Int.tmod_lt_of_pos (-n) hp;rw [Int.neg_tmod] at b;omega
theorem parts (c:Int):(-1000000<=IntKind.i64.wrap ((c.tmod 257).tdiv 100)/\IntKind.i64.wrap ((c.tmod 257).tdiv 100)<=1000000)/\(-1000000<=(IntKind.i64.wrap ((c.tmod 257).tdiv 10)).tmod 10/\(IntKind.i64.wrap ((c.tmod 257).tdiv 10)).tmod 10<=1000000)/\(-1000000<=(c.tmod 257).tmod 10/\(c.tmod 257).tmod 10<=1000000) /\
 (Lib.itoa (IntKind.i64.wrap ((c.tmod 257).tdiv 100))).length<=7/\(Lib.itoa ((IntKind.i64.wrap ((c.tmod 257).tdiv 10)).tmod 10)).length<=7/\(Lib.itoa ((c.tmod 257).tmod 10)).length<=7:=by
 have h1:=XV c 257 (by omega);have h2:=ZG (n:=c.tmod 257) (p:=100) (by omega) (B:=257) (by omega) (by omega);have w:IntKind.i64.wrap ((c.tmod 257).tdiv 100)=(c.tmod 257).tdiv 100:=wr (by omega) (by omega);have h3:=XV (IntKind.i64.wrap ((c.tmod 257).tdiv 10)) 10 (by omega);have h4:=XV (c.tmod 257) 10 (by omega);rw [w];exact ⟨⟨by omega,by omega⟩,⟨by omega,by omega⟩,⟨by omega,by omega⟩,XM (by omega) (by omega),XM (by omega) (by omega),XM (by omega) (by omega)⟩
theorem Yf (e:List UInt8):∀ r:List (List UInt8),Lib.join (r++[e]) [10]=(r.map (· ++ [10])).flatten++e
 | []=>by rw [List.nil_append,Lib.join_one];rfl
 | a :: r=>by
  rw [List.cons_append,Lib.join_cons];have ih:=Yf e r;cases r with
  | nil=>simp [Lib.joinTail]
  | cons b r =>
   rw [List.cons_append,Lib.join_cons] at ih;simp only [List.cons_append,Lib.joinTail,List.map_cons,List.flatten_cons] at ih ⊢;rw [List.append_assoc,ih];simp
def Rs (rows:List (List UInt8)):Prop:=rows.length<=2000/\∀ r∈rows,r.length<=300
theorem XU:∀ rows:List (List UInt8),(∀ r∈rows,r.length<=300)->((rows.map (· ++ [10])).flatten).length<=301 * rows.length
 | [],_=>by simp
 | r :: rows,h=>by
  have:=XU rows fun q hq=>h q (by simp [hq])
  have:=h r (by simp);simp only [List.map_cons,List.flatten_cons,List.length_append,List.length_cons,List.length_nil] at *;omega
theorem YP {rows:List (List UInt8)} (h:Rs rows) {i:Int} (h1:0<=i) (h2:i<rows.length):(List.getD rows i.toNat ([]:List UInt8)).length<=300:=by
 have h3:i.toNat<rows.length:=by omega
 have:List.getD rows i.toNat ([]:List UInt8)∈rows:=by
  rw [WX,W7 h3];exact List.getElem_mem h3
 exact h.2 _ this
theorem YK (rows:List (List UInt8)) (h:Rs rows):∀ (m f:Nat) (i c:Int),m<f->0<=i->i+m=rows.length->L115_1 fuel f rows rows c i = .ret ((rows.map (· ++ [10])).flatten++WW (W0 i c (rows.drop i.toNat))++[10]):=by
 have hfb:=bK;have fl:=XU rows h.2;have hl:=h.1;intro m
 induction m with
 | zero =>
  intro f i c hf hi he;obtain ⟨f,rfl⟩:=ks hf;have ed:rows.drop i.toNat=[]:=List.drop_eq_nil_of_le (by omega);obtain ⟨p1,p2,p3,l1,l2,l3⟩:=parts c;rw [L115_1_succ];try delta ae
  have lf:((rows.map (· ++ [10])).flatten++WW c).length<1000000:=by
   unfold WW;simp only [List.length_append,List.length_cons,List.length_nil];omega
  have e132:f132 (rows++[WW c],([10],())) = .ret ((rows.map (· ++ [10])).flatten++WW c):=by
   unfold f132;simp only [dT (show (rows++[WW c]).length<1000000 by simp;omega),dT lf,Bool.and_self,cond_true,Yf]
  have e132':f132 (rows++[([101,110,100,32]++Lib.itoa (IntKind.i64.wrap ((c.tmod 257).tdiv 100))++Lib.itoa ((IntKind.i64.wrap ((c.tmod 257).tdiv 10)).tmod 10)++Lib.itoa ((c.tmod 257).tmod 10))],([10],())) = .ret ((rows.map (· ++ [10])).flatten++WW c):=e132;have b4:((rows.map (· ++ [10])).flatten++WW c).length+([10]:List UInt8).length<1000000:=by
   unfold WW;simp only [List.length_append,List.length_cons,List.length_nil];omega
  simp only [dF (show ¬ i<(rows.length:Int) by omega),Xe _ p1.1 p1.2,Xe _ p2.1 p2.2,Xe _ p3.1 p3.2,
   dT (show ([101,110,100,32]:List UInt8).length+(Lib.itoa (IntKind.i64.wrap ((c.tmod 257).tdiv 100))).length<1000000 by simp;omega),
   dT (show (([101,110,100,32]:List UInt8)++Lib.itoa (IntKind.i64.wrap ((c.tmod 257).tdiv 100))).length+(Lib.itoa ((IntKind.i64.wrap ((c.tmod 257).tdiv 10)).tmod 10)).length<1000000 by simp;omega),
   dT (show ((([101,110,100,32]:List UInt8)++Lib.itoa (IntKind.i64.wrap ((c.tmod 257).tdiv 100)))++Lib.itoa ((IntKind.i64.wrap ((c.tmod 257).tdiv 10)).tmod 10)).length+(Lib.itoa ((c.tmod 257).tmod 10)).length<1000000 by simp;omega),cond_true,
   kX (show rows.length+([(([101,110,100,32]:List UInt8)++Lib.itoa (IntKind.i64.wrap ((c.tmod 257).tdiv 100))++Lib.itoa ((IntKind.i64.wrap ((c.tmod 257).tdiv 10)).tmod 10)++Lib.itoa ((c.tmod 257).tmod 10))]:List (List UInt8)).length<1000000 by simp;omega),e132',dT b4,ed]
  rfl
 | succ m ih =>
  intro f i c hf hi he;obtain ⟨f,rfl⟩:=ks hf;have hr:=YP h hi (show i<rows.length by omega);have inner:∀ (d g:Nat) (c k:Int),d<g->0<=k->k+d=(List.getD rows i.toNat ([]:List UInt8)).length ->
   L115_2 fuel f g i rows rows c k=L115_1 fuel f rows rows (Xj i k c ((List.getD rows i.toNat ([]:List UInt8)).drop k.toNat)) (i+1):=by
   intro d
   induction d with
   | zero =>
    intro g c k hg hk hd;obtain ⟨g,rfl⟩:=ks hg;rw [L115_2_succ];try delta ae
    have ed:(List.getD rows i.toNat ([]:List UInt8)).drop k.toNat=[]:=List.drop_eq_nil_of_le (by omega);rw [ed];simp only [dF (show ¬ k<((List.getD rows i.toNat ([]:List UInt8)).length:Int) by omega),wr (show -9223372036854775808<=i+1 by omega) (show i+1<=9223372036854775807 by omega)];rfl
   | succ d ihd =>
    intro g c k hg hk hd;obtain ⟨g,rfl⟩:=ks hg;rw [L115_2_succ];try delta ae
    rw [Yw hk (show k<(List.getD rows i.toNat ([]:List UInt8)).length by omega)];simp only [dT (show k<((List.getD rows i.toNat ([]:List UInt8)).length:Int) by omega),aY hk (show k<(List.getD rows i.toNat ([]:List UInt8)).length by omega),cond_true];have wk:IntKind.i64.wrap (k+1)=k+1:=wr (by omega) (by omega);rw [wk];rw [ihd g _ (k+1) (by omega) (by omega) (by omega)];rw [X6,wk];rfl
  rw [L115_1_succ];try delta ae
  rw [Yx hi (show i<rows.length by omega)];simp only [dT (show i<(rows.length:Int) by omega),aY hi (show i<rows.length by omega),cond_true];rw [inner (List.getD rows i.toNat ([]:List UInt8)).length fuel c 0 (by omega) (by omega) (by omega),ih f (i+1) _ (by omega) (by omega) (by omega)];rfl
theorem XN (s:List UInt8) (c:UInt8) (i:Nat):Lib.occAt s [c] i=(s[i]? == some c):=by
 unfold Lib.occAt;cases h:s.drop i with
 | nil =>
  have:s.length<=i:=by simpa using List.drop_eq_nil_iff.1 h
  rw [List.getElem?_eq_none this];rfl
 | cons a l =>
  have hi:i<s.length:=by
   refine Nat.not_le.1 fun hle=>?_
   rw [List.drop_eq_nil_of_le hle] at h;cases h
  rw [List.drop_eq_getElem_cons hi] at h;injection h with h1 h2;rw [W7 hi,h1];show ((c==a) && _)=_;simp only [List.isPrefixOf,Bool.and_true];rw [Bool.eq_iff_iff,beq_iff_eq,beq_iff_eq];exact ⟨fun h=>by rw [h],fun h=>(Option.some.inj h).symm⟩
theorem Ze {a b:List UInt8} {c:UInt8} (h:c ∉ a):Lib.index (a++c :: b) [c]=a.length:=by
 refine Lib.index_first (by simp) ?_ fun j hj=>?_
 . rw [XN];simp
 . rw [XN,List.getElem?_append_left hj];rw [W7 hj];have:a[j]≠c:=fun e=>h (e ▸ List.getElem_mem hj)
   simp [this]
theorem Zg {a:List UInt8} {c:UInt8} (h:c ∉ a):Lib.index a [c] = -1:=by
 refine Lib.index_none fun j hj=>?_
 rw [XN];cases hh:a[j]? with
 | none=>rfl
 | some b =>
  have:b∈a:=List.mem_of_getElem? hh;have hb:b≠c:=fun e=>h (e ▸ this)
  simp [hb]
theorem Xz {a:List UInt8} {c:UInt8} (h:c ∉ a):Lib.split a [c]=[a]:=by
 unfold Lib.split;rw [Lib.count_miss (Zg h)];rfl
theorem Xr {a b:List UInt8} {c:UInt8} (h:c ∉ a):Lib.split (a++c :: b) [c]=a :: Lib.split b [c]:=by
 unfold Lib.split;have hi:=Ze (b:=b) h;have ed:(a++c :: b).drop (a.length+1)=b:=by simp
 rw [Lib.count_hit (by simp) hi];have e1:([c]:List UInt8).length=1:=rfl;rw [e1,ed,Nat.add_comm 1];show (if Lib.index (a++c :: b) [c] == -1 then _ else _)=_;have ne:((a.length:Int) == -1)=false:=eF (by omega);rw [hi,ne];simp only [Bool.false_eq_true,if_false,Int.toNat_natCast,Nat.add_zero,e1,ed];rw [List.take_left]
theorem Xu (s:List UInt8) (c:UInt8) (h:s.length<1000000):f112 (s,([c],())) = .ret (Lib.split s [c]):=by
 have e:=Lib.splitB_all ⟨⟨[c]⟩⟩ (Nat.le_refl 1) 0 (Lib.countB ⟨⟨s⟩⟩ ⟨⟨[c]⟩⟩) ⟨⟨s⟩⟩ rfl;unfold f112 V3;simp only [dT h,dT (show 1<=([c]:List UInt8).length by simp),dT e,Bool.and_self,cond_true];rw [Lib.splitB_data];rfl
theorem Xt {d:Nat} (h:d<10):(UInt8.ofNat (48+d)).toNat=48+d:=by
 rw [UInt8.toNat_ofNat'];omega
theorem YQ {x:Int} (h1 : -2147483648<=x) (h2:x<=2147483647):IntKind.i32.wrap x=x:=by
 unfold IntKind.wrap;simp only [IntKind.bits,IntKind.signed];simp;split<;>omega
theorem WY (s:List UInt8):f113 (true,(s,())) = .ret ():=rfl
def WR (n:Int):UInt8:=UInt8.ofNat (48+n.toNat)
def W6 (f:Int):UInt8:=if f = -1 then 63 else WR f
def WS (l:List Int):List UInt8:=l.map W6
def WV (n:Int):List UInt8:=[99,111,112,105,101,115]++32 :: [WR n]
def WU (c:gg):List UInt8:=[99,111,112,121]++32 :: (WR c.1 :: 32 :: WS c.2.1)
def WQ (t:ac):List (List UInt8):=WV t.1 :: t.2.1.map WU
def Xi (f:Int):Prop:=f = -1\/(0<=f/\f<=9)
theorem XY {n:Int} (h0:0<=n) (h9:n<=9):(WR n).toNat=48+n.toNat:=Xt (by omega)
theorem Xo {n:Int} (h0:0<=n) (h9:n<=9):Lib.itoa n=[WR n]:=by
 have e:n=((n.toNat:Nat):Int):=by omega
 rw [e,Ye,Xc (by omega)];unfold WR;rw [Int.toNat_natCast]
theorem Xg (l:List Int):(WS l).length=l.length:=by unfold WS;simp
theorem YE {f:Int} (h:Xi f):(W6 f).toNat=63\/(48<=(W6 f).toNat/\(W6 f).toNat<=57):=by
 unfold W6;split
 . exact .inl rfl
 . rcases h with h|h
   . contradiction
   . rw [XY h.1 h.2];omega
theorem Xx {f:Int} (h:Xi f) {c:UInt8} (hc:c=32\/c=10):c≠W6 f:=by
 rintro rfl;have:=YE h;rcases hc with e|e<;>rw [e] at this<;>simp at this
theorem Xd {n:Int} (h0:0<=n):WR n=W6 n:=by unfold W6;rw [if_neg (by omega)]
theorem YF {l:List Int} (h:∀ x∈l,Xi x) {c:UInt8} (hc:c=32\/c=10):c ∉ WS l:=fun hm=>by
 obtain ⟨x,hx,e⟩:=List.mem_map.1 hm;exact Xx (h x hx) hc e.symm
structure RowIn (c:gg):Prop where
 par:0<=c.1/\c.1<=9
 len:1<=c.2.1.length/\c.2.1.length<=3
 fig:∀ x∈c.2.1,Xi x
theorem Yh {t:ac} (ht:TreeOK t) {k:Nat} (hk:k<t.2.1.length):RowIn (t.2.1.getD k bh) where
 par:=by
  have h:=(ht.node k hk).par;have e:(bW t k).1=(t.2.1.getD k bh).1:=rfl;have hc:=ht.copies;rw [e] at h;split at h<;>omega
 len:=by
  have h:=(ht.node k hk).len;have e:(bW t k).2.1=(t.2.1.getD k bh).2.1:=rfl;have hP:=ht.places;rw [e] at h;omega
 fig x hx:=by
  have h:=(ht.node k hk).fig;obtain ⟨p,hp,rfl⟩:=ud hx;exact h p hp
theorem Yg {t:ac} (ht:TreeOK t):∀ c∈t.2.1,RowIn c:=fun c hc=>by
 obtain ⟨i,hi,e⟩:=List.mem_iff_getElem.1 hc;have h:=Yh ht hi;rw [WX,W7 hi] at h;rw [<- e];exact h
theorem YI {c:gg} (h:RowIn c):(WU c).length<=10:=by
 have:=h.len;unfold WU;simp only [List.length_append,List.length_cons,List.length_nil,Xg];omega
theorem Yz {n:Int} (h0:0<=n) (h9:n<=9):yx (n,()) = .ret (WV n):=by
 have hfb:=bK;obtain ⟨j,hj⟩:∃ j,fuel=j+1+1:=⟨fuel - 2,by omega⟩
 unfold yx C0;have key:∀ N j:Nat,L130a_0 N (j+1+1) (n,()) [99,111,112,105,101,115] [n] 0 = .ret (WV n):=by
  intro N j;rw [L130a_0_succ];try delta ae
  simp only [show (([n]:List Int).length:Int)=1 from rfl,dT (show (0:Int)<1 by decide),show ax 0 ([n]:List Int).length=true from rfl,show List.getD [n] (0:Int).toNat 0=n from rfl,cond_true,Xe n (by omega) (by omega),Xo h0 h9,dT (show ([32]:List UInt8).length+[WR n].length<1000000 by simp),dT (show ([99,111,112,105,101,115]:List UInt8).length+(([32]:List UInt8)++[WR n]).length<1000000 by simp),show IntKind.i64.wrap (0+1)=1 from rfl];rw [L130a_0_succ];try delta ae
  simp only [show (([n]:List Int).length:Int)=1 from rfl,dF (show ¬ (1:Int)<1 by decide),dT (show (([99,111,112,105,101,115]:List UInt8)++(([32]:List UInt8)++[WR n])).length+([]:List UInt8).length<1000000 by simp),cond_true];rfl
 have:=key fuel j;rw [<- hj] at this;exact this
theorem Za {n:Int} (h0:0<=n) (h9:n<=9):(10:UInt8) ∉ WV n:=by
 unfold WV;intro h;rcases List.mem_append.1 h with h|h
 . revert h;decide
 . rcases List.mem_cons.1 h with h|h
   . cases h
   . rw [Xd h0] at h;exact Xx (.inr ⟨h0,h9⟩) (.inr rfl) (List.mem_singleton.1 h)
theorem ZY:∀ rows:List (List UInt8),(∀ r∈rows,r.length<=10)->((rows.map (· ++ [10])).flatten).length<=11 * rows.length
 | [],_=>by simp
 | r :: rows,h=>by
  have:=ZY rows fun q hq=>h q (by simp [hq])
  have:=h r (by simp);simp only [List.map_cons,List.flatten_cons,List.length_append,List.length_cons,List.length_nil] at *;omega
structure RowG (c:gg):Prop where
 par:0<=c.1/\c.1<=9
 len:c.2.1.length<=220
 fig:∀ x∈c.2.1,Xi x
structure TreeG (t:ac):Prop where
 places:0<=t.1/\t.1<=9
 copies:t.2.1.length<=220
 row:∀ c∈t.2.1,RowG c
theorem X0 {t:ac} (ht:TreeG t) {k:Nat} (hk:k<t.2.1.length):RowG (t.2.1.getD k bh):=ht.row _ (jh hk)
theorem Ym {t:ac} (ht:TreeOK t):TreeG t where
 places:=by have:=ht.places;omega
 copies:=by have:=ht.copies;omega
 row c hc:=by have h:=Yg ht c hc;exact ⟨h.par,by have:=h.len;omega,h.fig⟩
theorem XQ {t:ac} (ht:TreeG t):Rs (WQ t):=by
 have hc:=ht.copies;refine ⟨by unfold WQ;simp;omega,fun r hr=>?_⟩;rcases List.mem_cons.1 hr with rfl|hr
 . unfold WV;simp
 . obtain ⟨c,h1,rfl⟩:=List.mem_map.1 hr;have:=(ht.row c h1).len;unfold WU;simp only [List.length_append,List.length_cons,List.length_nil,Xg];omega
theorem Y9 {c:gg} (h:RowG c):EU (((c.1,(c.2.1,())),()),()) = .ret (WU c):=by
 have hfb:=bK;obtain ⟨j,hj⟩:∃ j,fuel=j+1+1:=⟨fuel - 2,by omega⟩
 have hlen:=h.len;unfold EU C2;have tail:∀ N j:Nat,L130b_1 N (j+1+1) (32 :: WS c.2.1) (((c.1,(c.2.1,())),()),()) [99,111,112,121] [c.1] 0 = .ret (WU c):=by
  intro N j;rw [L130b_1_succ];try delta ae
  simp only [show (([c.1]:List Int).length:Int)=1 from rfl,dT (show (0:Int)<1 by decide),show ax 0 ([c.1]:List Int).length=true from rfl,show List.getD [c.1] (0:Int).toNat 0=c.1 from rfl,cond_true,Xe c.1 (by have:=h.par;omega) (by have:=h.par;omega),Xo h.par.1 h.par.2,dT (show ([32]:List UInt8).length+[WR c.1].length<1000000 by simp),dT (show ([99,111,112,121]:List UInt8).length+(([32]:List UInt8)++[WR c.1]).length<1000000 by simp),show IntKind.i64.wrap (0+1)=1 from rfl];rw [L130b_1_succ];try delta ae
  simp only [show (([c.1]:List Int).length:Int)=1 from rfl,dF (show ¬ (1:Int)<1 by decide),dT (show (([99,111,112,121]:List UInt8)++(([32]:List UInt8)++[WR c.1])).length+(32 :: WS c.2.1).length<1000000 by simp only [List.length_append,List.length_cons,List.length_nil,Xg];omega),cond_true];rfl
 have key:=dQ (L:=fun n i=>L130b_0 fuel n (((c.1,(c.2.1,())),()),()) (32 :: WS (c.2.1.take i)) i) (len:=c.2.1.length) (K:=.ret (WU c)) (fun n i hi=>?_) (fun n=>?_) c.2.1.length fuel 0 (by omega) (by omega)
 . exact key
 . try dsimp only
   rw [L130b_0_succ]
   try delta ae
   have hf:=h.fig _ (jh (z:=(0:Int)) hi);have es:WS (c.2.1.take (i+1))=WS (c.2.1.take i)++[W6 (c.2.1.getD i 0)]:=by unfold WS;rw [B7 0 hi,List.map_append];rfl
   have el:(32 :: WS (c.2.1.take i)).length<=221:=by rw [List.length_cons,Xg,List.length_take];omega
   rw [es];simp only [dT (show (i:Int)<c.2.1.length by omega),aY (show (0:Int)<=i by omega) (show (i:Int)<c.2.1.length by omega),cond_true,Int.toNat_natCast,wn (show i<1000000000 by omega)];rcases hf with e|e
   . simp only [eT e,dT (show (32 :: WS (c.2.1.take i)).length+([63]:List UInt8).length<1000000 by simp only [List.length_cons,List.length_nil] at el ⊢;omega),cond_true];rw [e];rfl
   . simp only [eF (show c.2.1.getD i 0 ≠ -1 by omega),Xe (c.2.1.getD i 0) (by omega) (by omega),Xo e.1 e.2,dT (show (32 :: WS (c.2.1.take i)).length+[WR (c.2.1.getD i 0)].length<1000000 by simp only [List.length_cons,List.length_nil] at el ⊢;omega),cond_true];rw [Xd e.1];rfl
 . try dsimp only
   rw [L130b_0_succ]
   try delta ae
   simp only [dF (show ¬ ((c.2.1.length:Nat):Int)<c.2.1.length by omega),List.take_length];have:=tail fuel j;rw [<- hj] at this;exact this
theorem X7 {t:ac} (ht:TreeG t):f115 (t,()) = .ret (WT (WQ t)):=by
 have hfb:=bK;have hc:=ht.copies;have hP:=ht.places;have rs:=XQ ht;unfold f115 CQ;simp only [Yz (show 0<=t.1 by omega) (show t.1<=9 by omega)];have key:=dQ (L:=fun n k=>L115_0 fuel n (t,()) (WV t.1 :: (t.2.1.take k).map WU) k) (len:=t.2.1.length) (K:=.ret (WT (WQ t))) (fun n k hk=>?_) (fun n=>?_) t.2.1.length fuel 0 (by omega) (by omega)
 . exact key
 . try dsimp only
   rw [L115_0_succ]
   try delta ae
   have eb:EU ((((t.2.1.getD k bh).1,((t.2.1.getD k bh).2.1,())),()),()) = .ret (WU (t.2.1.getD k bh)):=Y9 (X0 ht hk);have el:(WV t.1 :: (t.2.1.take k).map WU).length<=221:=by rw [List.length_cons,List.length_map,List.length_take];omega
   have es:WV t.1 :: (t.2.1.take (k+1)).map WU=(WV t.1 :: (t.2.1.take k).map WU)++[WU (t.2.1.getD k bh)]:=by rw [B7 bh hk,List.map_append];rfl
   rw [es];simp only [dT (show (k:Int)<t.2.1.length by omega),aY (show (0:Int)<=k by omega) (show (k:Int)<t.2.1.length by omega),cond_true,Int.toNat_natCast,wn (show k<1000000000 by omega),eb,kX (xs:=WV t.1 :: (t.2.1.take k).map WU) (ys:=[WU (t.2.1.getD k bh)]) (by simp only [List.length_cons,List.length_nil] at el ⊢;omega)]
 . try dsimp only
   rw [L115_0_succ]
   try delta ae
   simp only [dF (show ¬ ((t.2.1.length:Nat):Int)<t.2.1.length by omega),List.take_length];exact YK (WQ t) rs (WQ t).length fuel 0 0 (by have:=rs.1;omega) (by omega) (by omega)
theorem ZE (c:UInt8) {Q:List UInt8->List (List UInt8)->Prop} (h0:∀ a,c ∉ a->Q a [a]) (h1:∀ a b r,c ∉ a->Q b r->Q (a++c :: b) (a :: r)):∀ (n:Nat) (s:List UInt8),s.length<=n->Q s (Lib.split s [c]):=by
 intro n
 induction n with
 | zero =>
  intro s hs;have:s=[]:=List.length_eq_zero_iff.1 (by omega);subst this;rw [Xz (by simp)];exact h0 [] (by simp)
 | succ n ih =>
  intro s hs
  by_cases hc:c∈s
  . obtain ⟨a,b,e,ha⟩:=List.eq_append_cons_of_mem hc;subst e;rw [Xr ha];exact h1 a b _ ha (ih b (by simp at hs;omega))
  . rw [Xz hc];exact h0 s hc
theorem XA (s:List UInt8) (c:UInt8):1<=(Lib.split s [c]).length/\(Lib.split s [c]).length<=s.length+1/\∀ r∈Lib.split s [c],r.length<=s.length:=by
 refine ZE c (Q:=fun s l=>1<=l.length/\l.length<=s.length+1/\∀ r∈l,r.length<=s.length) (fun a _=>⟨by simp,by simp,fun r hr=>by rw [List.mem_singleton.1 hr];exact Nat.le_refl _⟩) (fun a b r _ h=>?_) s.length s (Nat.le_refl _);obtain ⟨q1,q2,q3⟩:=h;refine ⟨by simp,by simp;omega,fun z hz=>?_⟩;rcases List.mem_cons.1 hz with rfl|hz
 . simp
 . have:=q3 z hz;simp;omega
theorem Zt {w:List UInt8} {p:Nat} (h:p<w.length):0<=uC w p/\p<qN w p/\uC w p<=2147483647:=by
 have hs:p<(⟨⟨w⟩⟩:ByteArray).size:=h;have hle:=decode_le ⟨⟨w⟩⟩ p;have hsz:1<=(Utf8.decode ⟨⟨w⟩⟩ p).2:=by
  by_cases ha:((⟨⟨w⟩⟩:ByteArray)[p]'hs).toNat<128
  . rw [decode_ascii ⟨⟨w⟩⟩ p hs ha];exact Nat.le_refl _
  . exact (decode_high ⟨⟨w⟩⟩ p hs (by omega)).2
 unfold uC qN;rw [dT h];refine ⟨by omega,?_,by omega⟩;show p<p+_;omega
theorem Xl {rows:List (List UInt8)} {i:Int} (h1:0<=i) (h2:i<rows.length):List.getD rows i.toNat ([]:List UInt8)∈rows:=by
 have h3:i.toNat<rows.length:=by omega
 rw [WX,W7 h3];exact List.getElem_mem h3
def Xh (s:List UInt8):Value:=.iface 146 (aP (.prod .str .unit) ((cC (.prod .str .unit) (s,())).getD []))
theorem W9 (s:List UInt8):f113 (false,(s,())) = .pan (Xh s):=rfl
theorem Zn (s:List UInt8):kL (Xh s) = .ret 4:=rfl
def Xp (b:Bool) (x:Int):Prop:=(b=true/\x = -1)\/(0<=x/\x<=9)
theorem Y6 (w:List UInt8) (b:Bool) (hw:w.length<=400):(∃ l,f114 (w,(b,())) = .ret l/\(∀ x∈l,Xp b x)/\l.length<=w.length)\/∃ q,f114 (w,(b,())) = .pan (Xh q):=by
 have hfb:=bK;have key:∀ (m n p:Nat) (out:List Int),w.length - p<=m->m<n->out.length<=p->out.length<=w.length->(∀ x∈out,Xp b x) ->
  (∃ l,L114_0 fuel n (w,(b,())) out p = .ret l/\(∀ x∈l,Xp b x)/\l.length<=w.length)\/∃ q,L114_0 fuel n (w,(b,())) out p = .pan (Xh q):=by
  intro m
  induction m with
  | zero =>
   intro n p out h1 h2 h3 h4 h5;obtain ⟨n,rfl⟩:=ks h2;rw [L114_0_succ];try delta ae
   simp only [dF (show ¬ p<w.length by omega)];exact .inl ⟨out,rfl,h5,h4⟩
  | succ m ih =>
   intro n p out h1 h2 h3 h4 h5;obtain ⟨n,rfl⟩:=ks (show 0<n by omega);rw [L114_0_succ];try delta ae
   by_cases hp:p<w.length
   rotate_left
   . simp only [dF hp];exact .inl ⟨out,rfl,h5,h4⟩
   obtain ⟨r1,r2,r3⟩:=Zt hp;have push:∀ x,Xp b x->(∃ l,L114_0 fuel n (w,(b,())) (out++[x]) (qN w p) = .ret l/\(∀ x∈l,Xp b x)/\l.length<=w.length)\/∃ q,L114_0 fuel n (w,(b,())) (out++[x]) (qN w p) = .pan (Xh q):=fun x hx =>
    ih n (qN w p) (out++[x]) (by omega) (by omega) (by simp;omega) (by simp;omega) fun y hy=>by
     rcases List.mem_append.1 hy with h|h
     . exact h5 y h
     . rw [List.mem_singleton.1 h];exact hx
   have ft:∀ x:Int,bQ out [x]=true:=fun x=>kX (xs:=out) (ys:=[x]) (by simp only [List.length_cons,List.length_nil];omega)
   simp only [dT hp,cond_true]
   by_cases e:b=true/\uC w p=63
   . obtain ⟨eb,e⟩:=e;subst eb;simp only [eT e,ft,cond_true];exact push (-1) (.inl ⟨rfl,rfl⟩)
   have On:b=true->uC w p≠63:=fun h1 h2=>e ⟨h1,h2⟩
   by_cases g1:uC w p >= 48
   rotate_left
   . cases b with
     | true=>simp only [eF (On rfl),dF g1,W9];exact .inr ⟨_,rfl⟩
     | false=>simp only [dF g1,W9];exact .inr ⟨_,rfl⟩
   by_cases g2:uC w p<=57
   rotate_left
   . cases b with
     | true=>simp only [eF (On rfl),dT g1,dF g2,W9];exact .inr ⟨_,rfl⟩
     | false=>simp only [dT g1,dF g2,W9];exact .inr ⟨_,rfl⟩
   have w1:IntKind.i32.wrap (uC w p - 48)=uC w p - 48:=YQ (by omega) (by omega);have w2:IntKind.i64.wrap (uC w p - 48)=uC w p - 48:=wr (by omega) (by omega);have pd:=push (uC w p - 48) (.inr ⟨by omega,by omega⟩);cases b with
   | true=>simp only [eF (On rfl),dT g1,dT g2,WY,w1,w2,ft,cond_true];exact pd
   | false=>simp only [dT g1,dT g2,WY,w1,w2,ft,cond_true];exact pd
 unfold f114 CP
 by_cases hne:(w != ([]:List UInt8))=true
 . simp only [hne,WY];exact key w.length fuel 0 [] (by omega) (by omega) (Nat.le_refl _) (Nat.zero_le _) (fun x hx=>by cases hx)
 . have hne:(w != ([]:List UInt8))=false:=by simpa using hne
   simp only [hne,W9];exact .inr ⟨_,rfl⟩
theorem aaX (s:List UInt8) (hs:s.length<=150):(∃ x,f90 (s,()) = .ret x/\TreeG x/\s=WT (WQ x))\/∃ q,f90 (s,()) = .pan (Xh q):=by
 have hfb:=bK;obtain ⟨R1,R2,R3⟩:=XA s 10;have es:=Xu s 10 (by omega);generalize Lib.split s [10]=R at *;unfold f90 Df;try delta ae
 by_cases c1:(R.length:Int) >= 3
 rotate_left
 . simp only [es,dF c1,W9];exact .inr ⟨_,rfl⟩
 have wl:IntKind.i64.wrap ((R.length:Int) - 2)=(R.length:Int) - 2:=wr (by omega) (by omega);have hcok:jN (1:Int) ((R.length:Int) - 2) (R.length:Int)=true:=by unfold jN;simp;omega
 have hCl:((cut R (1:Int) ((R.length:Int) - 2)).length:Int)=R.length - 3:=by unfold cut;simp;omega
 have hCm:∀ r∈cut R (1:Int) ((R.length:Int) - 2),r.length<=s.length:=fun r hr=>R3 r (List.mem_of_mem_drop (List.mem_of_mem_take hr))
 have m0:=R3 _ (Xl (rows:=R) (show (0:Int)<=0 by omega) (by omega));have e0:=Xu (List.getD R (0:Int).toNat ([]:List UInt8)) 32 (by omega);obtain ⟨W1,W2,W3⟩:=XA (List.getD R (0:Int).toNat ([]:List UInt8)) 32;generalize Lib.split (List.getD R (0:Int).toNat ([]:List UInt8)) [32]=W at *;have b1:=aY (show (0:Int)<=0 by omega) (show (0:Int)<R.length by omega);simp only [es,dT c1,WY,b1,cond_true,e0]
 by_cases c2:(W.length:Int)=2
 rotate_left
 . simp only [eF c2,W9];exact .inr ⟨_,rfl⟩
 have b2:=aY (show (0:Int)<=1 by omega) (show (1:Int)<W.length by omega);have g1:=W3 _ (Xl (rows:=W) (show (0:Int)<=1 by omega) (by omega));rcases Y6 (List.getD W (1:Int).toNat ([]:List UInt8)) false (by omega) with ⟨o,eo,o1,o2⟩|⟨q,eq⟩
 rotate_left
 . simp only [eT c2,WY,b2,cond_true,eq];exact .inr ⟨_,rfl⟩
 simp only [eT c2,WY,b2,cond_true,eo]
 by_cases c3:(o.length:Int)=1
 rotate_left
 . simp only [eF c3,W9];exact .inr ⟨_,rfl⟩
 have b3:=aY (show (0:Int)<=0 by omega) (show (0:Int)<o.length by omega);simp only [eT c3,WY,b3,cond_true,wl,hcok];have hpl:0<=List.getD o (0:Int).toNat 0/\List.getD o (0:Int).toNat 0<=9:=by
  have h:=o1 _ (jh (z:=(0:Int)) (show (0:Int).toNat<o.length by omega));rcases h with h|h
  . exact absurd h.1 (by simp)
  . exact h
 generalize List.getD o (0:Int).toNat 0=P at *;generalize hC:cut R (1:Int) ((R.length:Int) - 2)=C at *;have key:∀ (m f:Nat) (i:Int) (t:List gg),m<f->0<=i->i+m=C.length->(t.length:Int)=i->(∀ c∈t,RowG c) ->
  (∃ x,L90_0 fuel f (s,()) R 0 [] P t i = .ret x/\TreeG x/\s=WT (WQ x))\/∃ q,L90_0 fuel f (s,()) R 0 [] P t i = .pan (Xh q):=by
  intro m
  induction m with
  | zero =>
   intro f i t hf hi he hl ht;obtain ⟨f,rfl⟩:=ks hf;have rb:TreeG (P,(t,())):=⟨hpl,by dsimp only;omega,ht⟩
   have NO:=X7 rb;rw [L90_0_succ];try delta ae
   cases heq:(WT (WQ (P,(t,())))==s) with
   | false =>
    simp only [wl,hC,dF (show ¬ i<(C.length:Int) by omega),NO,heq,W9];exact .inr ⟨_,rfl⟩
   | true =>
    simp only [wl,hC,dF (show ¬ i<(C.length:Int) by omega),NO,heq,WY];exact .inl ⟨_,rfl,rb,(beq_iff_eq.1 heq).symm⟩
  | succ m ih =>
   intro f i t hf hi he hl ht;obtain ⟨f,rfl⟩:=ks hf;have hi2:i<C.length:=by omega
   have rl:=hCm _ (Xl (rows:=C) hi hi2);have ex:=Xu (List.getD C i.toNat ([]:List UInt8)) 32 (by omega);obtain ⟨X1,X2,X3⟩:=XA (List.getD C i.toNat ([]:List UInt8)) 32;generalize Lib.split (List.getD C i.toNat ([]:List UInt8)) [32]=X at *;rw [L90_0_succ];try delta ae
   simp only [wl,hC,dT hi2,aY hi hi2,cond_true,ex]
   by_cases d2:(X.length:Int)=3
   rotate_left
   . simp only [eF d2,W9];exact .inr ⟨_,rfl⟩
   have h2:=aY (show (0:Int)<=1 by omega) (show (1:Int)<X.length by omega);have h3:=aY (show (0:Int)<=2 by omega) (show (2:Int)<X.length by omega);have k1:=X3 _ (Xl (rows:=X) (show (0:Int)<=1 by omega) (by omega));have k2:=X3 _ (Xl (rows:=X) (show (0:Int)<=2 by omega) (by omega));rcases Y6 (List.getD X (1:Int).toNat ([]:List UInt8)) false (by omega) with ⟨a,ea,a1,a2⟩|⟨q,eq⟩
   rotate_left
   . simp only [eT d2,WY,h2,cond_true,eq];exact .inr ⟨_,rfl⟩
   simp only [eT d2,WY,h2,cond_true,ea]
   by_cases d3:(a.length:Int)=1
   rotate_left
   . simp only [eF d3,W9];exact .inr ⟨_,rfl⟩
   have h4:=aY (show (0:Int)<=0 by omega) (show (0:Int)<a.length by omega);rcases Y6 (List.getD X (2:Int).toNat ([]:List UInt8)) true (by omega) with ⟨b,eb,b1',b2'⟩|⟨q,eq⟩
   rotate_left
   . simp only [eT d3,WY,h4,h3,cond_true,eq];exact .inr ⟨_,rfl⟩
   have hft:=kX (xs:=t) (ys:=[((List.getD a (0:Int).toNat 0,(b,())):gg)]) (by simp only [List.length_cons,List.length_nil];omega);simp only [eT d3,WY,h4,h3,cond_true,eb,wr (show -9223372036854775808<=i+1 by omega) (show i+1<=9223372036854775807 by omega)];rw [hft];refine ih f (i+1) _ (by omega) (by omega) (by omega) (by simp;omega) fun c hc=>?_
   rcases List.mem_append.1 hc with h|h
   . exact ht c h
   . rw [List.mem_singleton.1 h];refine ⟨?_,by dsimp only;omega,fun x hx=>?_⟩
     . have h:=a1 _ (jh (z:=(0:Int)) (show (0:Int).toNat<a.length by omega));rcases h with h|h
       . exact absurd h.1 (by simp)
       . exact h
     . rcases b1' x hx with h|h
       . exact .inl h.2
       . exact .inr h
 exact key C.length fuel 0 [] (by omega) (by omega) (by omega) rfl (fun c hc=>by cases hc)
def W8 (R:List (List UInt8)):List UInt8:=(R.map (· ++ [10])).flatten
theorem XJ (r:List UInt8) (R:List (List UInt8)):W8 (r :: R)=r++10 :: W8 R:=by simp [W8]
theorem ZM:∀ (R S:List (List UInt8)),(∀ r∈R,(10:UInt8) ∉ r)->(∀ r∈S,(10:UInt8) ∉ r)->W8 R=W8 S->R=S
 | [],[],_,_,_=>rfl
 | [],s :: S,_,_,h=>by
  have:=congrArg List.length h;rw [XJ] at this;simp [W8] at this
 | r :: R,[],_,_,h=>by
  have:=congrArg List.length h;rw [XJ] at this;simp [W8] at this
 | r :: R,s :: S,hR,hS,h=>by
  rw [XJ,XJ] at h;have e1:=Xr (a:=r) (b:=W8 R) (c:=10) (hR r (by simp));have e2:=Xr (a:=s) (b:=W8 S) (c:=10) (hS s (by simp));rw [h,e2] at e1;have e3:s=r:=(List.cons.inj e1).1;subst e3;have h4:=List.append_cancel_left h;rw [ZM R S (fun q hq=>hR q (by simp [hq])) (fun q hq=>hS q (by simp [hq])) (List.cons.inj h4).2]
theorem Z8 (b:UInt8):∀ (R:List (List UInt8)) (p:Nat),p<(W8 R).length->List.getD (W8 R) p 0≠10 ->
 ∃ i k,i<R.length/\k<(List.getD R i []).length/\List.getD (List.getD R i []) k 0=List.getD (W8 R) p 0/\(W8 R).set p b=W8 (R.set i ((List.getD R i []).set k b))
 | [],p,h,_=>by simp [W8] at h
 | r :: R,p,h,hn=>by
  rw [XJ] at h hn ⊢
  by_cases h1:p<r.length
  . refine ⟨0,p,by simp,by simpa using h1,?_,?_⟩
    . simp only [WX,List.getElem?_append_left h1];rfl
    . show _=W8 ((r.set p b) :: R);rw [XJ,List.set_append,if_pos h1]
  . by_cases h2:p=r.length
    . exact absurd (by rw [h2];simp [WX]) hn
    . obtain ⟨q,rfl⟩:∃ q,p=r.length+(q+1):=⟨p - r.length - 1,by omega⟩
      have hg:List.getD (r++10 :: W8 R) (r.length+(q+1)) 0=List.getD (W8 R) q 0:=by
       rw [WX,List.getElem?_append_right (by omega),Nat.add_sub_cancel_left,List.getElem?_cons_succ,<- WX]
      rw [hg] at hn ⊢;obtain ⟨i,k,a1,a2,a3,a4⟩:=Z8 b R q (by simp at h;omega) hn;refine ⟨i+1,k,by simpa using a1,a2,a3,?_⟩;show _=W8 (r :: R.set i ((List.getD R i []).set k b));rw [XJ,List.set_append,if_neg h1,Nat.add_sub_cancel_left,List.set_cons_succ,a4]
def sI (i:Int):Int->List UInt8->Int
 | _,[]=>0
 | k,b :: bs=>((b.toNat:Nat):Int) * (k+1) * (i+1)+sI i (k+1) bs
def sO:Int->List (List UInt8)->Int
 | _,[]=>0
 | i,r :: R=>sI i 0 r+sO (i+1) R
theorem abo (b:UInt8) {k i:Int} (k0:0<=k) (k1:k<=1000) (i0:0<=i) (i1:i<=1000) :
 (0<=((b.toNat:Nat):Int)/\((b.toNat:Nat):Int)<=255)/\(0<=((b.toNat:Nat):Int) * (k+1)/\((b.toNat:Nat):Int) * (k+1)<=255255)/\0<=((b.toNat:Nat):Int) * (k+1) * (i+1)/\((b.toNat:Nat):Int) * (k+1) * (i+1)<=256000000:=by
 have hb:=b.toNat_lt;have a0:((b.toNat:Nat):Int)<=255:=by omega
 have a1:0<=((b.toNat:Nat):Int) * (k+1):=Int.mul_nonneg (by omega) (by omega);have a2:((b.toNat:Nat):Int) * (k+1)<=255 * 1001:=Int.mul_le_mul a0 (by omega) (by omega) (by omega);have a3:=Int.mul_nonneg a1 (show 0<=i+1 by omega);have a4:((b.toNat:Nat):Int) * (k+1) * (i+1)<=255255 * 1001:=Int.mul_le_mul (by omega) (by omega) (by omega) (by omega);exact ⟨⟨by omega,a0⟩,⟨a1,by omega⟩,a3,by omega⟩
theorem ZN {i:Int} (i0:0<=i) (i1:i<=1000):∀ (bs:List UInt8) (k c:Int),0<=k->k+bs.length<=1000->0<=c->c+256000000 * (bs.length:Int)<=9000000000000000000 ->
 Xj i k c bs=c+sI i k bs/\0<=sI i k bs/\sI i k bs<=256000000 * (bs.length:Int)
 | [],k,c,_,_,_,_=>by simp [Xj,sI]
 | b :: bs,k,c,k0,k1,c0,c1=>by
  rw [List.length_cons] at k1 c1;obtain ⟨⟨a1,a2⟩,⟨a3,a4⟩,a5,a6⟩:=abo b (k:=k) (i:=i) k0 (by omega) i0 i1;have w1:IntKind.i64.wrap ((b.toNat:Nat):Int)=((b.toNat:Nat):Int):=wr (by omega) (by omega);have w2:IntKind.i64.wrap (k+1)=k+1:=wr (by omega) (by omega);have w3:IntKind.i64.wrap (i+1)=i+1:=wr (by omega) (by omega);have w4:IntKind.i64.wrap (((b.toNat:Nat):Int) * (k+1))=((b.toNat:Nat):Int) * (k+1):=wr (by omega) (by omega);have w5:IntKind.i64.wrap (((b.toNat:Nat):Int) * (k+1) * (i+1))=((b.toNat:Nat):Int) * (k+1) * (i+1):=wr (by omega) (by omega);have w6:IntKind.i64.wrap (c+((b.toNat:Nat):Int) * (k+1) * (i+1))=c+((b.toNat:Nat):Int) * (k+1) * (i+1):=wr (by omega) (by omega);rw [X6,w1,w2,w4,w3,w5,w6];obtain ⟨b1,b2,b3⟩:=ZN i0 i1 bs (k+1) (c+((b.toNat:Nat):Int) * (k+1) * (i+1)) (by omega) (by omega) (by omega) (by omega);rw [b1,sI,List.length_cons];omega
theorem Yv:∀ (R:List (List UInt8)) (i c:Int),0<=i->i+R.length<=1000->(∀ r∈R,r.length<=300)->0<=c->c+76800000000 * (R.length:Int)<=8000000000000000000->W0 i c R=c+sO i R/\0<=sO i R
 | [],i,c,_,_,_,_,_=>by simp [W0,sO]
 | r :: R,i,c,i0,i1,hr,c0,c1=>by
  rw [List.length_cons] at i1 c1;have hl:=hr r (by simp);obtain ⟨b1,b2,b3⟩:=ZN (i:=i) i0 (by omega) r 0 c (by omega) (by omega) c0 (by omega);rw [W0,b1];obtain ⟨d1,d2⟩:=Yv R (i+1) (c+sI i 0 r) (by omega) (by omega) (fun q hq=>hr q (by simp [hq])) (by omega) (by omega);rw [d1,sO];omega
theorem Z6 {i:Int} (v:UInt8):∀ (bs:List UInt8) (k:Int) (p:Nat),p<bs.length->sI i k (bs.set p v)=sI i k bs+(((v.toNat:Nat):Int) - (((List.getD bs p 0).toNat:Nat):Int)) * (k+p+1) * (i+1)
 | [],_,_,h=>by simp at h
 | b :: bs,k,0,_=>by
  show sI i k (v :: bs)=sI i k (b :: bs)+(((v.toNat:Nat):Int) - ((b.toNat:Nat):Int)) * (k+((0:Nat):Int)+1) * (i+1);have e:k+((0:Nat):Int)+1=k+1:=by omega
  rw [sI,sI,e,Int.sub_mul,Int.sub_mul];omega
 | b :: bs,k,p+1,h=>by
  show sI i k (b :: bs.set p v)=sI i k (b :: bs)+(((v.toNat:Nat):Int) - (((List.getD bs p 0).toNat:Nat):Int)) * (k+((p+1:Nat):Int)+1) * (i+1);have e:k+((p+1:Nat):Int)+1=k+1+(p:Int)+1:=by omega
  rw [sI,sI,Z6 v bs (k+1) p (by simpa using h),e];omega
theorem Z7 (r':List UInt8):∀ (R:List (List UInt8)) (i:Int) (j:Nat),j<R.length->sO i (R.set j r')=sO i R+(sI (i+j) 0 r' - sI (i+j) 0 (List.getD R j []))
 | [],_,_,h=>by simp at h
 | r :: R,i,0,_=>by
  show sO i (r' :: R)=sO i (r :: R)+(sI (i+((0:Nat):Int)) 0 r' - sI (i+((0:Nat):Int)) 0 r);have e:i+((0:Nat):Int)=i:=by omega
  rw [sO,sO,e];omega
 | r :: R,i,j+1,h=>by
  show sO i (r :: R.set j r')=sO i (r :: R)+(sI (i+((j+1:Nat):Int)) 0 r' - sI (i+((j+1:Nat):Int)) 0 (List.getD R j []));have e:i+((j+1:Nat):Int)=i+1+(j:Int):=by omega
  rw [sO,sO,Z7 r' R (i+1) j (by simpa using h),e];omega
theorem Zj {u:Nat} (h:u<10):Lib.itoa (u:Int)=[UInt8.ofNat (48+u)]:=by rw [Ye,Xc h]
theorem Yy {c:Int} {m:Nat} (h:c=m):WW c=[101,110,100,32,UInt8.ofNat (48+m % 257 / 100),UInt8.ofNat (48+m % 257 / 10 % 10),UInt8.ofNat (48+m % 257 % 10)]:=by
 have e1:c.tmod 257=((m % 257:Nat):Int):=by rw [h];exact Int.ofNat_tmod m 257
 have e2:((m % 257:Nat):Int).tdiv 100=((m % 257 / 100:Nat):Int):=Int.ofNat_tdiv (m % 257) 100;have e3:((m % 257:Nat):Int).tdiv 10=((m % 257 / 10:Nat):Int):=Int.ofNat_tdiv (m % 257) 10;have w1:IntKind.i64.wrap ((m % 257 / 100:Nat):Int)=((m % 257 / 100:Nat):Int):=wr (by omega) (by omega);have w2:IntKind.i64.wrap ((m % 257 / 10:Nat):Int)=((m % 257 / 10:Nat):Int):=wr (by omega) (by omega);have e4:((m % 257 / 10:Nat):Int).tmod 10=((m % 257 / 10 % 10:Nat):Int):=Int.ofNat_tmod (m % 257 / 10) 10;have e5:((m % 257:Nat):Int).tmod 10=((m % 257 % 10:Nat):Int):=Int.ofNat_tmod (m % 257) 10;unfold WW;rw [e1,e2,e3,w1,w2,e4,e5,Zj (by omega),Zj (by omega),Zj (by omega)];rfl
theorem aaC {c d:Int} (hc:0<=c) (hd:0<=d) (h:WW c=WW d):c % 257=d % 257:=by
 rw [Yy (m:=c.toNat) (by omega),Yy (m:=d.toNat) (by omega)] at h;simp only [List.cons.injEq,true_and,and_true] at h;obtain ⟨h1,h2,h3⟩:=h;have g1:=congrArg UInt8.toNat h1;have g2:=congrArg UInt8.toNat h2;have g3:=congrArg UInt8.toNat h3;rw [Xt (by omega),Xt (by omega)] at g1 g2 g3;omega
set_option maxRecDepth 10000 in
theorem Z3 {a:Nat} (h0:0<a) (h1:a<257):Nat.Coprime 257 a:=by
 have:∀ a,a<257->0<a->Nat.gcd 257 a=1:=by decide
 exact this a h1 h0
theorem abc {d a b:Int} (d0:d≠0) (d1 : -257<d) (d2:d<257) (a0:0<a) (a1:a<257) (b0:0<b) (b1:b<257) (h:(257:Int) ∣ d * a * b):False:=by
 have h1:257 ∣ d.natAbs * a.natAbs * b.natAbs:=by
  have:=Int.natAbs_dvd_natAbs.2 h
  rwa [Int.natAbs_mul,Int.natAbs_mul] at this
 have h2:=(Z3 (a:=b.natAbs) (by omega) (by omega)).dvd_of_dvd_mul_right h1;have h3:=(Z3 (a:=a.natAbs) (by omega) (by omega)).dvd_of_dvd_mul_right h2;have:=Nat.le_of_dvd (by omega) h3;omega
theorem YJ {t:ac} (ht:TreeG t):∀ r∈WQ t,(10:UInt8) ∉ r:=by
 intro r hr;rcases List.mem_cons.1 hr with rfl|hr
 . exact Za ht.places.1 ht.places.2
 . obtain ⟨c,hc,rfl⟩:=List.mem_map.1 hr;have h:=ht.row c hc;unfold WU;intro h2;rcases List.mem_append.1 h2 with h2|h2
   . revert h2;decide
   . rcases List.mem_cons.1 h2 with h2|h2
     . cases h2
     . rcases List.mem_cons.1 h2 with h2|h2
       . rw [Xd h.par.1] at h2;exact Xx (.inr h.par) (.inr rfl) h2
       . rcases List.mem_cons.1 h2 with h2|h2
         . cases h2
         . exact YF h.fig (.inr rfl) h2
theorem ZQ {c:Int} (h:0<=c):(10:UInt8) ∉ WW c:=by
 have g:∀ k,k<10->(10:UInt8)≠UInt8.ofNat (48+k):=fun k hk e=>by
  have h1:=congrArg UInt8.toNat e;rw [Xt hk] at h1;have h2:(10:UInt8).toNat=10:=rfl;omega
 rw [Yy (m:=c.toNat) (by omega)];simp only [List.mem_cons,List.not_mem_nil,or_false,not_or];exact ⟨by decide,by decide,by decide,by decide,g _ (by omega),g _ (by omega),g _ (by omega)⟩
theorem Y0 {t:ac} (ht:TreeG t):0<=W0 0 0 (WQ t):=by
 have hc:=ht.copies;have e:(WQ t).length=t.2.1.length+1:=by unfold WQ;simp
 have:=Yv (WQ t) 0 0 (by omega) (by omega) (XQ ht).2 (by omega) (by omega);omega
theorem abp {t:ac} (ht:TreeOK t):(WT (WQ t)).length<=115:=by
 have hc:=ht.copies;have h1:=ZY (WQ t) fun r hr=>by
  rcases List.mem_cons.1 hr with rfl|hr
  . unfold WV;simp
  . obtain ⟨c,h1,rfl⟩:=List.mem_map.1 hr;exact YI (Yg ht c h1)
 have h3:(WQ t).length=t.2.1.length+1:=by unfold WQ;simp
 unfold WT;rw [Yy (m:=(W0 0 0 (WQ t)).toNat) (by have:=Y0 (Ym ht);omega)];simp only [List.length_append,List.length_cons,List.length_nil];omega
theorem aac (R:List (List UInt8)):WT R=W8 (R++[WW (W0 0 0 R)]):=by
 unfold WT W8;simp
theorem abn {x y:ac} (hx:TreeOK x) (hy:TreeG y) {p:Nat} {v:UInt8} (hp:p<(WT (WQ x)).length) (b1:48<=(List.getD (WT (WQ x)) p 0).toNat) (b2:(List.getD (WT (WQ x)) p 0).toNat<=57)
 (v1:48<=v.toNat) (v2:v.toNat<=57) (hne:v≠List.getD (WT (WQ x)) p 0):(WT (WQ x)).set p v≠WT (WQ y):=by
 intro h;have lx:(WQ x).length<=14:=by have:=hx.copies;unfold WQ;simp;omega
 have hxr:=XQ (Ym hx);have hyr:=XQ hy;rw [aac] at hp b1 b2 hne h;rw [aac] at h;obtain ⟨i,k,a1,a2,a3,a4⟩:=Z8 v _ p hp (fun e=>by rw [e] at b1;exact absurd b1 (by decide));rw [a4] at h;have nlv:v≠10:=fun e=>by rw [e] at v1;exact absurd v1 (by decide)
 have nx:∀ r∈WQ x++[WW (W0 0 0 (WQ x))],(10:UInt8) ∉ r:=fun r hr=>by
  rcases List.mem_append.1 hr with hr|hr
  . exact YJ (Ym hx) r hr
  . rw [List.mem_singleton.1 hr];exact ZQ (Y0 (Ym hx))
 have ny:∀ r∈WQ y++[WW (W0 0 0 (WQ y))],(10:UInt8) ∉ r:=fun r hr=>by
  rcases List.mem_append.1 hr with hr|hr
  . exact YJ hy r hr
  . rw [List.mem_singleton.1 hr];exact ZQ (Y0 hy)
 have hRi:List.getD (WQ x++[WW (W0 0 0 (WQ x))]) i []∈WQ x++[WW (W0 0 0 (WQ x))]:=by
  rw [WX,W7 a1];exact List.getElem_mem a1
 have hS:=ZM _ _ (fun r hr hm=>by
  rcases List.mem_or_eq_of_mem_set hr with hr|rfl
  . exact nx r hr hm
  . rcases List.mem_or_eq_of_mem_set hm with hm|hm
    . exact nx _ hRi hm
    . exact nlv hm.symm) ny h
 have hlen:=congrArg List.length hS;simp only [List.length_set,List.length_append,List.length_cons,List.length_nil] at hlen;have cx:=Yv (WQ x) 0 0 (by omega) (by have:=hxr.1;omega) hxr.2 (by omega) (by have:=hxr.1;omega);have cy:=Yv (WQ y) 0 0 (by omega) (by have:=hyr.1;omega) hyr.2 (by omega) (by have:=hyr.1;omega)
 by_cases hi:i<(WQ x).length
 . have eg:List.getD (WQ x++[WW (W0 0 0 (WQ x))]) i []=List.getD (WQ x) i []:=by
    rw [WX,List.getElem?_append_left hi,<- WX]
   rw [eg] at hS a2 a3;rw [List.set_append,if_pos hi] at hS;obtain ⟨s1,s2⟩:=List.append_inj hS (by rw [List.length_set];omega);have s3:=(List.cons.inj s2).1;have hm:=aaC (by omega) (by omega) s3;have hkl:(List.getD (WQ x) i []).length<=200:=by
    have:List.getD (WQ x) i []∈WQ x:=by
     rw [WX,W7 hi];exact List.getElem_mem hi
    rcases List.mem_cons.1 this with e|e
    . rw [e];unfold WV;simp
    . obtain ⟨c,h1,e2⟩:=List.mem_map.1 e;rw [<- e2];have:=YI (Yg hx c h1);omega
   have e1:sO 0 (WQ y)=sO 0 (WQ x)+(((v.toNat:Nat):Int) - (((List.getD (List.getD (WQ x) i []) k 0).toNat:Nat):Int)) * (0+(k:Int)+1) * (0+(i:Int)+1):=by
    rw [<- s1,Z7 _ _ _ _ hi,Z6 v _ _ _ a2];omega
   rw [a3] at e1;have hd:((v.toNat:Nat):Int) - (((List.getD (W8 (WQ x++[WW (W0 0 0 (WQ x))])) p 0).toNat:Nat):Int)≠0:=fun e=>hne (UInt8.toNat_inj.1 (by omega))
   refine abc (a:=0+(k:Int)+1) (b:=0+(i:Int)+1) hd (by omega) (by omega) (by omega) (by omega) (by omega) (by omega) ?_;rw [cx.1,cy.1,e1] at hm;generalize (((v.toNat:Nat):Int) - (((List.getD (W8 (WQ x++[WW (W0 0 0 (WQ x))])) p 0).toNat:Nat):Int)) * (0+(k:Int)+1) * (0+(i:Int)+1)=z at hm ⊢;omega
 . have ei:i=(WQ x).length:=by
    simp only [List.length_append,List.length_cons,List.length_nil] at a1;omega
   have eg:List.getD (WQ x++[WW (W0 0 0 (WQ x))]) i []=WW (W0 0 0 (WQ x)):=by
    rw [ei,WX,List.getElem?_append_right (by omega),Nat.sub_self];rfl
   rw [eg] at hS a2 a3;rw [List.set_append,if_neg hi,ei,Nat.sub_self] at hS;obtain ⟨s1,s2⟩:=List.append_inj hS (by omega);have s3:(WW (W0 0 0 (WQ x))).set k v=WW (W0 0 0 (WQ y)):=(List.cons.inj s2).1;rw [<- s1] at s3;have:=congrArg (fun l=>List.getD l k 0) s3;simp only [WX,List.getElem?_set_self a2,Option.getD_some] at this;rw [<- WX,a3] at this;exact hne this
open Go.RowKit (Below)
def XO:Array Oper:=bp 8 (av Tryz.f11)
def XP:Array Oper:=bp 9 (av Tryz.f11)
def Xa:Array Oper:=bp 10 (av Tryz.f11)
theorem YH:XO.toList.map a_=[(some 61,.move (.tmp 7),none),(some 62,.convert 9 66 (.tmp 61),none),(some 9,.assign (.tmp 62),none)]:=by kernel_rfl
theorem XH:XP.toList.map a_=[(some 63,.move (.tmp 9),none),(some 64,.move (.tmp 1),none),(some 65,.move (.tmp 2),none),(some 66,.binOp .add 3 (.const (.int .i64 48)) (.tmp 65) 3,none),
 (some 67,.convert 3 5 (.tmp 66),none),(some 68,.indexAddr 66 (.tmp 63) (.tmp 64),none),(none,.store 5 (.tmp 68) (.tmp 67),none)]:=by kernel_rfl
theorem Zi:(Xa.toList.map a_)[0]? = some (some 70,.move (.tmp 9),none)/\(Xa.toList.map a_)[1]? = some (some 71,.convert 66 9 (.tmp 70),none):=⟨by kernel_rfl,by kernel_rfl⟩
def Xv:Code:=match ic [1,1,1,1,1,1,1,1] (av Tryz.f11) with|some c=>c|none=>.skip
theorem abq:ic [1,1,1,1,1] (av Tryz.f11)=some (.seq (.region 8 XO false) (.seq (.region 9 XP false) (.seq (.region 10 Xa false) Xv))):=by kernel_rfl
def Xk (dg:Int):UInt8:=UInt8.ofNat (48+dg).toNat
def ZF (st:St) (v:List UInt8):St:=(((((((((((st.map aR).set 61 .und).set 62 .und).set 9 .und).set 63 .und).set 64 .und).set 65 .und).set 66 .und).set 67 .und).set 68 .und).set 70 .und).set 71 (.d .str v)
def XL (s:List UInt8) (p dg:Int):Bool:=decide (0<=p) && decide (p<(s.length:Int)) && decide (0<=dg) && decide (dg<=9)
def Xy (s:List UInt8) (p dg:Int):List UInt8:=List.set s p.toNat (Xk dg)
def Yn (Φ:Nat->List Spec) (hints:List (Nat×List Nat)) (N:Nat) {ρ:Type} (k:X->St->Out ρ) (st:St):Out ρ :=
 match get st 7 with
 | .d .str s=>(match get st 1 with
  | .d (.int .i64) p=>(match get st 2 with
   | .d (.int .i64) dg=>(match au (get st 61) || au (get st 62) || au (get st 9) || au (get st 63) || au (get st 64) || au (get st 65) || au (get st 66) || au (get st 67) || au (get st 68) || au (get st 70) || au (get st 71) || !(st.length==85) with
    | true=>.fail
    | false=>bif XL s p dg then
     vq Tryz.prog Φ (fun _ p=>.pan p) Xa (fun s=>bz Tryz.prog Φ hints N Xv none k s) (Xa.toList.drop 2) (ZF st (Xy s p dg))
     else .fail)
   | _=>.fail)
  | _=>.fail)
 | _=>.fail
section
variable {a : Act} {w : World} {o : Oper}
theorem aaI (ho:o.op = .convert 9 66 (.tmp 61)) {s:ByteArray} (h1:tm a 61 = .string s):(execOp a.eval o).run Tryz.prog w = .ok (.value (.slice (some ⟨w.heap.size,0,none⟩) s.size (grownCap w s.size 0 5)))
      (w.drew.alloc (.cells (bytesRow s (grownCap w s.size 0 5)) 5 ((bytesRow s (grownCap w s.size 0 5)).size,(bytesRow s (grownCap w s.size 0 5)).size+1))):=by
 have e1:a.eval (.tmp 61) = .string s:=h1;have:=run_bytes_of_string (P:=Tryz.prog) w 9 66 5 s (by kernel_rfl) (by kernel_rfl) (by kernel_rfl);simp [execOp,ho,e1,this]
theorem aaE (ho:o.op = .binOp .add 3 (.const (.int .i64 48)) (.tmp 65) 3) {n:Int} (h1:tm a 65 = .int .i64 n) (n0:0<=n) (n9:n<=9):(execOp a.eval o).run Tryz.prog w = .ok (.value (.int .i64 (48+n))) w:=by
 have e1:a.eval (.tmp 65) = .int .i64 n:=h1;have e2:a.eval (.const (.int .i64 48)) = .int .i64 48:=rfl;have w1:IntKind.i64.wrap (48+n)=48+n:=by
  unfold IntKind.wrap;simp only [IntKind.bits,IntKind.signed];simp;omega
 simp only [execOp,ho,e1,e2];simp [go_sem,w1]
theorem aaM (ho:o.op = .convert 3 5 (.tmp 66)) {n:Int} (h1:tm a 66 = .int .i64 n) (n0:0<=n) (n9:n<=255):(execOp a.eval o).run Tryz.prog w = .ok (.value (.int .u8 n)) w:=by
 have e1:a.eval (.tmp 66) = .int .i64 n:=h1;have w1:IntKind.u8.wrap n=n:=by
  unfold IntKind.wrap;simp only [IntKind.bits,IntKind.signed];simp;omega
 simp only [execOp,ho,e1];simp [go_sem,w1]
theorem aaG (ho:o.op = .indexAddr 66 (.tmp 63) (.tmp 64)) {g n cap:Nat} {p:Int} (h1:tm a 63 = .slice (some ⟨g,0,none⟩) n cap) (h2:tm a 64 = .int .i64 p) (p0:0<=p) (p1:p<n):(execOp a.eval o).run Tryz.prog w = .ok (.value (.pointer (some ⟨g,p.toNat,none⟩))) w:=by
 have e1:a.eval (.tmp 63) = .slice (some ⟨g,0,none⟩) n cap:=h1;have e2:a.eval (.tmp 64) = .int .i64 p:=h2;have hu:Tryz.prog.underlying 66=some (.slice 5):=by kernel_rfl
 have hE:bj Tryz.prog 9 5=some (.int .u8):=by kernel_rfl
 simp [execOp,ho,e1,e2,Instr.indexAt,asIntOf,run_underlying hu,fq hE,gh,p0,p1,Ty.size]
theorem aaJ (ho:o.op = .store 5 (.tmp 68) (.tmp 67)) {g p:Nat} {n:Int} (h1:tm a 68 = .pointer (some ⟨g,p,none⟩)) (h2:tm a 67 = .int .u8 n) {u:Value} (hc:w.cell? ⟨g,p,none⟩=some u) (hf:w.frozen? ⟨g,p,none⟩=false) :
 (execOp a.eval o).run Tryz.prog w = .ok .skip (w.setCell ⟨g,p,none⟩ (.int .u8 n)):=by
 have e1:a.eval (.tmp 68) = .pointer (some ⟨g,p,none⟩):=h1;have e2:a.eval (.tmp 67) = .int .u8 n:=h2;simp only [execOp,ho,e1,e2];simp [go_sem,stored,hc,hf]
theorem aaL (ho:o.op = .convert 66 9 (.tmp 70)) {g cap:Nat} {l:List UInt8} (h1:tm a 70 = .slice (some ⟨g,0,none⟩) l.length cap) (hc:∀ j (hj:j<l.length),w.cell? (Addr.add ⟨g,0,none⟩ j)=some (.int .u8 (l[j].toNat:Int))) :
 (execOp a.eval o).run Tryz.prog w = .ok (.value (.string ⟨l.toArray⟩)) w:=by
 have e1:a.eval (.tmp 70) = .slice (some ⟨g,0,none⟩) l.length cap:=h1;have:=run_convert_bytes_back (P:=Tryz.prog) w 66 9 5 ⟨g,0,none⟩ cap l (by kernel_rfl) (by kernel_rfl) (by kernel_rfl) hc;simp [execOp,ho,e1,this]
end
theorem aaA {Φ:Nat->List Spec} (hΦ:∀ g sp,sp∈Φ g->am Tryz.prog sp) (hints:List (Nat×List Nat)) (N:Nat) {ρ:Type} {fin:Out ρ} (hf:fin ≠ .fail) {F:Nat->Prop} {M0:Base} {w0:World} {n:Nat} (hI:∀ w,Fr F w0 w->Inv.I Tryz.prog w) (hpl:∀ j v,M0.pin j=some v->False)
 {k:X->St->Out ρ} {Q:Exit->Act->World->Prop} (hp:∀ p q,fin = .pan p->cN p q->∀ st a w,aK F M0 w0 st a w->Q (.panic [{ v:=q,recovered:=false }]) a w)
 (hQ:∀ x st a w,aK F M0 w0 st a w->k x st=fin->Q x.exit' a w) {st:St} {a:Act} {w:World} (hc:aK F M0 w0 st a w) {s:List UInt8} {p dg:Int} (h7:get st 7 = .d .str s) (h1:get st 1 = .d (.int .i64) p) (h2:get st 2 = .d (.int .i64) dg)
 (hnb:(au (get st 61) || au (get st 62) || au (get st 9) || au (get st 63) || au (get st 64) || au (get st 65) || au (get st 66) || au (get st 67) || au (get st 68) || au (get st 70) || au (get st 71) || !(st.length==85))=false) (hcd:XL s p dg=true)
 (h:vq Tryz.prog Φ (fun _ p=>.pan p) Xa (fun s=>bz Tryz.prog Φ hints N Xv none k s) (Xa.toList.drop 2) (ZF st (Xy s p dg))=fin) :
 (Code.seq (.region 8 XO false) (.seq (.region 9 XP false) (.seq (.region 10 Xa false) Xv))).wpIn (aA none) n Tryz.prog Q a w:=by
 unfold XL at hcd;simp only [Bool.and_eq_true,decide_eq_true_eq] at hcd;obtain ⟨⟨⟨p0,p1⟩,g0⟩,g9⟩:=hcd;unfold Xy at h;simp only [Bool.or_eq_false_iff] at hnb;obtain ⟨⟨⟨⟨⟨⟨⟨⟨⟨⟨⟨n61,n62⟩,n9⟩,n63⟩,n64⟩,n65⟩,n66⟩,n67⟩,n68⟩,n70⟩,n71⟩,hlen⟩:=hnb;have hlen:st.length=85:=by simpa using hlen
 obtain ⟨hfr,M,hg⟩:=hc.drop;have hm:∀ i,get (st.map aR) i=aR (get st i):=fun i=>dp st i
 obtain ⟨_,M',hg0⟩:=hc;have t7:tm a 7 = .string ⟨⟨s⟩⟩:=by
  have s7:=hg0.slot 7;rw [h7] at s7;obtain ⟨cs,e,q⟩:=s7;have q':cs=[.string ⟨⟨s⟩⟩]:=q;subst q';exact e
 have t1:tm a 1 = .int .i64 p:=by
  have s7:=hg0.slot 1;rw [h1] at s7;obtain ⟨cs,e,q⟩:=s7;have q':cs=[.int .i64 p]:=q;subst q';exact e
 have t2:tm a 2 = .int .i64 dg:=by
  have s7:=hg0.slot 2;rw [h2] at s7;obtain ⟨cs,e,q⟩:=s7;have q':cs=[.int .i64 dg]:=q;subst q';exact e
 have hsz:a.tmps.size=85:=hg0.size.trans hlen;have hpn:p.toNat<s.length:=by omega
 generalize hcap:grownCap w (⟨⟨s⟩⟩:ByteArray).size 0 5=cap;generalize hrow:bytesRow ⟨⟨s⟩⟩ cap=row;have hrs:s.length<=row.size:=by
  rw [<- hrow];unfold bytesRow;simp
 have hrj:∀ j (hj:j<s.length),row[j]? = some (.int .u8 (s[j].toNat:Int)):=fun j hj=>by
  rw [<- hrow];exact bytesRow_at ⟨⟨s⟩⟩ cap j hj
 generalize hW1:w.drew.alloc (.cells row 5 (row.size,row.size+1))=W1;have w1h:W1.heap[w.heap.size]? = some (.cells row 5 (row.size,row.size+1)):=by
  rw [<- hW1];exact heap_alloc_new w.drew _
 have w1o:∀ b,b<w.heap.size->W1.heap[b]? = w.heap[b]? := fun b hb=>by
  rw [<- hW1];exact heap_alloc_old w.drew _ hb
 have w1c:∀ j (hj:j<s.length),W1.cell? ⟨w.heap.size,j,none⟩=some (.int .u8 (s[j].toNat:Int)):=fun j hj=>by
  rw [<- hW1];exact (World.cell?_alloc_mark w.drew _ _ _ j).trans (hrj j hj)
 have w1f:W1.frozen? ⟨w.heap.size,p.toNat,none⟩=false:=by
  rw [<- hW1];refine (World.frozen?_alloc_mark w.drew row 5 row.size (row.size+1) p.toNat).trans ?_;rw [decide_eq_false (by omega)];rfl
 have gA:Good M0 F (fun b o=>M b o\/(b=w.heap.size/\True)) (st.map aR) a W1:=by
  rw [<- hW1];exact hg.drew.alloc (.cells row 5 (row.size,row.size+1)) (fun _=>True)
 generalize hW2:W1.setCell ⟨w.heap.size,p.toNat,none⟩ (.int .u8 (48+dg))=W2;have w2o:∀ b,b≠w.heap.size->W2.heap[b]? = W1.heap[b]? := fun b hb=>by
  rw [<- hW2];exact Below.heap_setCell W1 _ _ b hb
 have w2s:W2.heap.size=W1.heap.size:=by
  rw [<- hW2];simp [World.setCell]
 have w1s:W1.heap.size=w.heap.size+1:=by
  rw [<- hW1];exact yP w.drew _
 have hold:∀ i k b,ap (st.map aR) a W1 i k b->b<w.heap.size:=fun i k b ho=>cH hg.slot (cM (fun i b ho'=>w1o b (cH hg.slot ho')) ho)
 have gB:Good M0 F (fun b o=>M b o\/(b=w.heap.size/\True)) (st.map aR) a W2:=by
  refine gA.world (fun b o v e hn=>?_) (by omega) gA.up (fun b o hb=>by have:=gA.lt b o hb;omega) gA.down (bF.but w1h (fun c e=>by cases e) fun k _ hk=>w2o k hk) fun i k b ho=>⟨w2o b (by have:=hold i k b ho;omega),fun _ h=>h⟩
  have hb:b≠w.heap.size:=fun e=>hn (.inr ⟨e,trivial⟩)
  exact ⟨(World.cell?_of_block (a:=⟨b,o,none⟩) (w2o b hb)).trans e,hn⟩
 have hfr2:Fr F w0 W2:=by
  have f1:Fr F w0 W1:=by
   rw [<- hW1];exact hfr.drew.alloc (fun b hb=>hg.room b hb) _
  refine f1.but (g:=w.heap.size) (fun hF=>absurd (hg.room _ hF) (Nat.lt_irrefl _)) ?_ ?_ ?_ (by omega) w2o
  all_goals (subst hW2;rfl)
 have w2c:∀ j (hj:j<(List.set s p.toNat (Xk dg)).length),W2.cell? (Addr.add ⟨w.heap.size,0,none⟩ j)=some (.int .u8 ((List.set s p.toNat (Xk dg))[j].toNat:Int)):=fun j hj=>by
  have hj':j<s.length:=by simpa using hj
  rw [gh,Nat.zero_add,<- hW2]
  by_cases e:j=p.toNat
  . subst e;rw [World.cell?_setCell_same W1 _ _ (w1c _ hj')];rw [List.getElem_set_self];have:(Xk dg).toNat=(48+dg).toNat:=by
     unfold Xk;rw [UInt8.toNat_ofNat'];omega
    rw [this]
    congr 2
    omega
  . rw [World.cell?_setCell_other W1 _ _ _ (fun e2=>e (by simpa using congrArg Addr.off e2.symm)),w1c j hj',List.getElem_set_ne (fun e2=>e e2.symm)]
 generalize hu:Value.slice (some ⟨w.heap.size,0,none⟩) s.length cap=u;have k61:=z_ gB (d:=61) (by rw [hm];exact zz n61) (.string ⟨⟨s⟩⟩);have k62:=z_ k61 (d:=62) (by rw [eU (by omega),hm];exact zz n62) u;have k9:=z_ k62 (d:=9) (by (repeat rw [eU (by omega)]);rw [hm];exact zz n9) u;have k63:=z_ k9 (d:=63) (by (repeat rw [eU (by omega)]);rw [hm];exact zz n63) u;have k64:=z_ k63 (d:=64) (by (repeat rw [eU (by omega)]);rw [hm];exact zz n64) (.int .i64 p);have k65:=z_ k64 (d:=65) (by (repeat rw [eU (by omega)]);rw [hm];exact zz n65) (.int .i64 dg);have k66:=z_ k65 (d:=66) (by (repeat rw [eU (by omega)]);rw [hm];exact zz n66) (.int .i64 (48+dg));have k67:=z_ k66 (d:=67) (by (repeat rw [eU (by omega)]);rw [hm];exact zz n67) (.int .u8 (48+dg));have k68:=z_ k67 (d:=68) (by (repeat rw [eU (by omega)]);rw [hm];exact zz n68) (.pointer (some ⟨w.heap.size,p.toNat,none⟩));have k70:=z_ k68 (d:=70) (by (repeat rw [eU (by omega)]);rw [hm];exact zz n70) u;have hb71:au (get ((((((((((st.map aR).set 61 .und).set 62 .und).set 9 .und).set 63 .und).set 64 .und).set 65 .und).set 66 .und).set 67 .und).set 68 .und |>.set 70 .und) 71)=false:=by
  (repeat rw [eU (by omega)]);rw [hm];exact zz n71
 have k71:=k70.put_plain (d:=71) (s:=.d .str (List.set s p.toNat (Xk dg))) (v:=.string ⟨⟨List.set s p.toNat (Xk dg)⟩⟩) (by simp [hlen]) (fun cs e=>by rw [e] at hb71;cases hb71) rfl ⟨[.string ⟨⟨List.set s p.toNat (Xk dg)⟩⟩],rfl,rfl⟩;obtain ⟨A9,hA9⟩:∃ A9,A9=(((((((((a.put (some 61) (.string ⟨⟨s⟩⟩)).put (some 62) u).put (some 9) u).put (some 63) u).put (some 64) (.int .i64 p)).put (some 65) (.int .i64 dg)).put (some 66) (.int .i64 (48+dg))).put (some 67) (.int .u8 (48+dg))).put (some 68) (.pointer (some ⟨w.heap.size,p.toNat,none⟩))):=⟨_,rfl⟩
 rw [<- hA9] at k71;have t9:tm A9 9=u:=by
  rw [hA9,W_ (by omega),W_ (by omega),W_ (by omega),W_ (by omega),W_ (by omega),W_ (by omega),ay (by simp only [aG];omega)]
 have s9:A9.tmps.size=85:=by
  rw [hA9];simp only [aG];exact hsz
 have rs8:XO.size=3:=by have:=congrArg List.length YH;simpa using this
 have rs9:XP.size=7:=by have:=congrArg List.length XH;simpa using this
 obtain ⟨o0,i0,d0,q0,z0⟩:=aB YH (i:=0) rfl;obtain ⟨o1,i1,d1,q1,z1⟩:=aB YH (i:=1) rfl;obtain ⟨o2,i2,d2,q2,z2⟩:=aB YH (i:=2) rfl;refine wpIn_seq (wpIn_region ?_);rw [rs8];show wpOpsIn (aA none) n Tryz.prog XO _ [0,1,2] a w;rw [wpOpsIn_cons];refine aV i0 (aC z0) (fun c h=>by rw [q0] at h;cases h) (fQ q0) ?_;rw [d0,t7,wpOpsIn_cons];refine aV i1 (aC z1) (fun c h=>by rw [q1] at h;cases h) (aaI q1 (ay (by omega))) ?_;rw [d1,hcap,hrow,hW1,wpOpsIn_cons];refine aV i2 (aC z2) (fun c h=>by rw [q2] at h;cases h) (tj q2) ?_;rw [d2,ay (by simp only [aG];omega)];have hss:(⟨⟨s⟩⟩:ByteArray).size=s.length:=rfl;rw [hss,hu];obtain ⟨o0,i0,d0,q0,z0⟩:=aB XH (i:=0) rfl;obtain ⟨o1,i1,d1,q1,z1⟩:=aB XH (i:=1) rfl;obtain ⟨o2,i2,d2,q2,z2⟩:=aB XH (i:=2) rfl;obtain ⟨o3,i3,d3,q3,z3⟩:=aB XH (i:=3) rfl;obtain ⟨o4,i4,d4,q4,z4⟩:=aB XH (i:=4) rfl;obtain ⟨o5,i5,d5,q5,z5⟩:=aB XH (i:=5) rfl;obtain ⟨o6,i6,d6,q6,z6⟩:=aB XH (i:=6) rfl;refine wpIn_seq (wpIn_region ?_);rw [rs9];show wpOpsIn (aA none) n Tryz.prog XP _ [0,1,2,3,4,5,6] _ W1;rw [wpOpsIn_cons];refine aV i0 (aC z0) (fun c h=>by rw [q0] at h;cases h) (fQ q0) ?_;rw [d0,ay (by simp only [aG];omega),wpOpsIn_cons];refine aV i1 (aC z1) (fun c h=>by rw [q1] at h;cases h) (fQ q1) ?_;rw [d1,W_ (by omega),W_ (by omega),W_ (by omega),W_ (by omega),t1,wpOpsIn_cons];refine aV i2 (aC z2) (fun c h=>by rw [q2] at h;cases h) (fQ q2) ?_;rw [d2,W_ (by omega),W_ (by omega),W_ (by omega),W_ (by omega),W_ (by omega),t2,wpOpsIn_cons];refine aV i3 (aC z3) (fun c h=>by rw [q3] at h;cases h) (aaE q3 (ay (by simp only [aG];omega)) g0 g9) ?_;rw [d3,wpOpsIn_cons];refine aV i4 (aC z4) (fun c h=>by rw [q4] at h;cases h) (aaM q4 (ay (by simp only [aG];omega)) (by omega) (by omega)) ?_;rw [d4,wpOpsIn_cons];refine aV i5 (aC z5) (fun c h=>by rw [q5] at h;cases h) (aaG q5 (g:=w.heap.size) (n:=s.length) (cap:=cap) (p:=p) (by
  rw [W_ (by omega),W_ (by omega),W_ (by omega),W_ (by omega),ay (by simp only [aG];omega),hu]) (by
  rw [W_ (by omega),W_ (by omega),W_ (by omega),ay (by simp only [aG];omega)]) p0 p1) ?_
 rw [d5,wpOpsIn_cons];refine iG i6 (aC z6) (fun c h=>by rw [q6] at h;cases h) (aaJ q6 (g:=w.heap.size) (p:=p.toNat) (n:=48+dg) (ay (by simp only [aG];omega)) (by rw [W_ (by omega),ay (by simp only [aG];omega)]) (w1c _ hpn) w1f) ?_;rw [d6,gW,hW2,<- hA9];have rs10:2<=Xa.size:=by
  have:=Zi.2;rw [List.getElem?_map,Array.getElem?_toList] at this;rcases Nat.lt_or_ge 1 Xa.size with h|h
  . omega
  . rw [Array.getElem?_eq_none h] at this;cases this
 obtain ⟨o0,i0,d0,q0,z0⟩:=aB (L:=Xa.toList.map a_) rfl Zi.1;obtain ⟨o1,i1,d1,q1,z1⟩:=aB (L:=Xa.toList.map a_) rfl Zi.2;refine wpIn_seq (wpIn_region ?_);have hrange:List.range Xa.size=0 :: 1 :: List.range' 2 (Xa.toList.drop 2).length:=by
  obtain ⟨m,hm⟩:∃ m,Xa.size=m+1+1:=⟨Xa.size - 2,by omega⟩
  rw [List.length_drop,Array.length_toList,hm,List.range_eq_range',List.range'_succ,List.range'_succ];rfl
 rw [hrange,wpOpsIn_cons];refine aV i0 (aC z0) (fun c h=>by rw [q0] at h;cases h) (fQ q0) ?_;rw [d0];rw [t9,wpOpsIn_cons];refine aV i1 (aC z1) (fun c h=>by rw [q1] at h;cases h) (aaL q1 (g:=w.heap.size) (cap:=cap) (l:=List.set s p.toNat (Xk dg)) (by
  rw [List.length_set,hu];exact ay (by omega)) w2c) ?_
 rw [d1];have hcF:=(⟨hfr2,_,k71⟩:aK F M0 w0 _ _ W2)
 unfold ZF at h;have hl:∀ j,(Xa.toList.drop 2)[j]? = Xa[2+j]? := fun j=>by rw [List.getElem?_drop,Array.getElem?_toList]
 generalize hl2:Xa.toList.drop 2=l2 at h hl ⊢;show wpOpsIn (aA none) n Tryz.prog Xa (Exit.then (Code.wpIn (aA none) n Tryz.prog Xv Q) Q) (List.range' 2 l2.length) ((A9.put (some 70) u).put (some 71) (.string ⟨⟨List.set s p.toNat (Xk dg)⟩⟩)) W2;refine JW (ro:=none) (n:=n) (Q:=Exit.then (Code.wpIn (aA none) n Tryz.prog Xv Q) Q) (kp:=fun _ p=>.pan p) (k:=fun s=>bz Tryz.prog Φ hints N Xv none k s) hΦ hI hf (fun g p q hk hq st a w hc=>hp p q hk.symm hq st a w hc) (fun st a w hc h=>?_) l2 2 _ _ _ hl hcF h;exact ig hΦ mixed hints N hf Xv F M0 w0 none none n (fun _=>rfl) hI (fun j v hj=>(hpl j v hj).elim) k Q (fun _=>hp) hQ st a w hc h
theorem aaB {Φ:Nat->List Spec} (hΦ:∀ g sp,sp∈Φ g->am Tryz.prog sp) (hints:List (Nat×List Nat)) (N:Nat):rX Tryz.prog (.seq (.region 8 XO false) (.seq (.region 9 XP false) (.seq (.region 10 Xa false) Xv))) (fun {ρ} k st=>Yn Φ hints N k st):=by
 intro ρ fin hf F M0 w0 n hI hpl k Q hp hQ st a w hc h;dsimp only at h;unfold Yn at h;split at h;rotate_left
 . exact absurd h.symm hf
 rename_i s h7;split at h;rotate_left
 . exact absurd h.symm hf
 rename_i p h1;split at h;rotate_left
 . exact absurd h.symm hf
 rename_i dg h2;split at h
 . exact absurd h.symm hf
 rename_i hnb;cases hcd:XL s p dg with
 | false=>rw [hcd] at h;exact absurd h.symm hf
 | true =>
  rw [hcd] at h;exact aaA hΦ hints N hf hI hpl hp hQ hc h7 h1 h2 hnb hcd h
def YM:List Spec:=[Zv,Iw,XR,Be,XS]
def Ya:List (Nat×List Nat):=[]
def Yp (N:Nat) (x:eV):Out Bool:=match YB (x.1,()) with | .ret r_1=>(match (!r_1) with|true=>(match tu () with | .ret r=>.ret r | .pan p=>.pan p | .fail=>.fail)|false=>match (decide (x.2.2.1<0)) with|true=>(match tu () with | .ret r=>.ret r | .pan p=>.pan p | .fail=>.fail)|false=>match (decide (x.2.2.1 > 9)) with|true=>(match tu () with | .ret r=>.ret r | .pan p=>.pan p | .fail=>.fail)|false=>match Xw (x.1,()) with | .ret r_9=>(match (r_9.2.1 != 0) with|true=>.ret false|false=>match (decide (x.2.1<0)) with|true=>(match tu () with | .ret r=>.ret r | .pan p=>.pan p | .fail=>.fail)|false=>match (decide (x.2.1 >= (ae r_9.1))) with|true=>(match tu () with | .ret r=>.ret r | .pan p=>.pan p | .fail=>.fail)|false=>bif (ax x.2.1 r_9.1.length) then match (decide ((oU r_9.1 x.2.1)<48)) with|true=>(match tu () with | .ret r=>.ret r | .pan p=>.pan p | .fail=>.fail)|false=>bif (ax x.2.1 r_9.1.length) then match (decide ((oU r_9.1 x.2.1) > 57)) with|true=>(match tu () with | .ret r=>.ret r | .pan p=>.pan p | .fail=>.fail)|false=>bif (ax x.2.1 r_9.1.length) then match ((IntKind.i64.wrap (IntKind.u8.wrap ((oU r_9.1 x.2.1) - 48)))==x.2.2.1) with|true=>(match tu () with | .ret r=>.ret r | .pan p=>.pan p | .fail=>.fail)|false=>bif (XL r_9.1 x.2.1 x.2.2.1) then match pL ((Xy r_9.1 x.2.1 x.2.2.1),()) with | .ret r_21=>(match (r_21.2.1==4) with|true=>(match Xm (r_21.1,((0,(([]:List (Int×aE)),())),())) with | .ret r_23=>(match r_23 with|true=>(match tu () with | .ret r=>.ret r | .pan p=>.pan p | .fail=>.fail)|false=>.ret false) | .pan p=>.pan p | .fail=>.fail)|false=>.ret false) | .pan p=>.pan p | .fail=>.fail else .fail else .fail else .fail else .fail) | .pan p=>.pan p | .fail=>.fail) | .pan p=>.pan p | .fail=>.fail
theorem e11 (N:Nat) (x:eV):vp Tryz.prog (ah YM) Ya N (fun {ρ} k st=>Yn (ah YM) Ya N k st) [1,1,1,1,1] Tryz.f11 false false iP .bool x=Yp N x:=by kernel_rfl
def f11 (x:eV):Out Bool:=Yp fuel x
def abk:Spec:=⟨11,.call,iP,.bool,false,false,f11⟩
theorem c11:am Tryz.prog abk:=Nl (l:=YM) (arg:=iP) (res:=.bool) (multi:=false) (own:=false) (F:=f11) mixed (all_cons ZJ (all_cons WC (all_cons Yt (all_cons My (all_cons Yu aO))))) (c:=av Tryz.f11) (r:=.seq (.region 8 XO false) (.seq (.region 9 XP false) (.seq (.region 10 Xa false) Xv))) Tryz.func11 (by kernel_rfl) (E:=(fun {ρ} k st=>Yn (ah YM) Ya fuel k st)) (path:=[1,1,1,1,1]) abq (aaB (eK (all_cons ZJ (all_cons WC (all_cons Yt (all_cons My (all_cons Yu aO)))))) Ya fuel) Ya fun x _=>⟨fuel,e11 fuel x⟩
theorem abr {x:Int} (h1:0<=x) (h2:x<=255):IntKind.u8.wrap x=x:=by
 unfold IntKind.wrap;simp only [IntKind.bits,IntKind.signed];simp;omega
theorem aaT:Xb ((0,([],())),((0,([],())),())) = .ret true:=by
 have hfb:=bK;obtain ⟨j,hj⟩:∃ j,fuel=j+1:=⟨fuel - 1,by omega⟩
 unfold Xb XB
 try delta ae
 have key:∀ N j:Nat,L41n_0 N (j+1) ((0,([],())),((0,([],())),())) 0 = .ret true:=by
  intro N j;rw [L41n_0_succ];try delta ae
  simp only [dF (show ¬ (0:Int)<(([]:List gg).length:Int) by simp)]
 have:=key fuel j;rw [<- hj] at this;exact this
theorem aaS {t:ac} (ht:TreeOK t):Xf (t,()) = .ret (WT (WQ t),(0,())):=by
 unfold Xf XI;simp only [ht.t55,Bool.not_true,X7 (Ym ht)]
theorem aa6 (t:ac) (p dg:Int):f11 (t,(p,(dg,()))) = .ret true:=by
 show Yp fuel (t,(p,(dg,())))=_;unfold Yp;try delta ae
 simp only [ZS,X8,Fd,X9];rcases aaQ t with h22|⟨h22,ht⟩
 . simp only [h22,nf,WL]
 simp only [h22,nt]
 by_cases c1:dg<0
 . simp only [dT c1,WL]
 by_cases c2:dg > 9
 . simp only [dF c1,dT c2,WL]
 simp only [dF c1,dF c2,aaS ht,n00]
 by_cases c3:p<0
 . simp only [dT c3,WL]
 by_cases c4:p >= ((WT (WQ t)).length:Int)
 . simp only [dF c3,dT c4,WL]
 have hib:ax p (WT (WQ t)).length=true:=aY (by omega) (by omega);have hby:oU (WT (WQ t)) p=(((List.getD (WT (WQ t)) p.toNat 0).toNat:Nat):Int):=rfl;simp only [dF c3,dF c4,hib,cond_true,hby];have hbd:(List.getD (WT (WQ t)) p.toNat 0).toNat<256:=UInt8.toNat_lt _
 by_cases c5:(((List.getD (WT (WQ t)) p.toNat 0).toNat:Nat):Int)<48
 . simp only [dT c5,WL]
 by_cases c6:(((List.getD (WT (WQ t)) p.toNat 0).toNat:Nat):Int) > 57
 . simp only [dF c5,dT c6,WL]
 simp only [dF c5,dF c6];rw [abr (x:=(((List.getD (WT (WQ t)) p.toNat 0).toNat:Nat):Int) - 48) (by omega) (by omega),wr (x:=(((List.getD (WT (WQ t)) p.toNat 0).toNat:Nat):Int) - 48) (by omega) (by omega)]
 by_cases c7:(((List.getD (WT (WQ t)) p.toNat 0).toNat:Nat):Int) - 48=dg
 . simp only [eT c7,WL]
 have hin:XL (WT (WQ t)) p dg=true:=by
  unfold XL;simp only [Bool.and_eq_true,decide_eq_true_eq];omega
 have hdg:(Xk dg).toNat=(48+dg).toNat:=by
  unfold Xk;rw [UInt8.toNat_ofNat'];omega
 have hsh:=abp ht;have hlen:(Xy (WT (WQ t)) p dg).length=(WT (WQ t)).length:=by unfold Xy;exact List.length_set
 have Oe:f52 (Xy (WT (WQ t)) p dg,()) = .ret ((0,([],())),(4,())):=by
  rcases aaX (Xy (WT (WQ t)) p dg) (by omega) with ⟨y,_,rb,hs⟩|⟨q,OH⟩
  . exfalso;refine abn ht rb (p:=p.toNat) (v:=Xk dg) (by omega) (by omega) (by omega) (by omega) (by omega) (fun e=>c7 ?_) hs;rw [<- e,hdg];omega
  . unfold f52 r7;try delta ae
    simp only [dF (show ¬ (((Xy (WT (WQ t)) p dg).length:Nat):Int) > 115 by omega),OH,Zn,nT (show (4:Int)≠0 by decide)]
 simp only [eF c7,hin,cond_true,Oe,eT (rfl:(4:Int)=4),aaT,WL]
end Go.V
end
