/- Part. -/
import Derived.Test.YtmkbnifehdhbbabGreatDoorQL
import Derived.Test.YtmkbnifehdhbbabGreatDoorCR2
import Derived.Test.YtmkbnifehdhbbabGreatDoorCRA
import Derived.Lib.ItoaLen
import Derived.Laws.RangeString
import Derived.Laws.RangeAny
set_option linter.all false
noncomputable section
namespace Go.V
open Go.Proofs
def WX:=@List.getD_eq_getElem?_getD
def W7:=@List.getElem?_eq_getElem
def Yl:List Spec:=[]
def Yd:List (Nat×List Nat):=[]
theorem Y5 (N:Nat) (x:(Int×(Int×(Int×Unit)))):aW Tryz.prog (ah Yl) Yd N Tryz.f60 false false kt .bool x=Da N x:=by kernel_rfl
theorem X5:am Tryz.prog V1:=bi (l:=Yl) (arg:=kt) (res:=.bool) (multi:=false) (own:=false) (F:=kT) mixed aO Tryz.func60 rfl Yd fun x _=>⟨fuel,Y5 fuel x⟩
def L93_1 (N n0 n1:Nat) (x:((List (List UInt8))×(Int×Unit))) (out_1:(List UInt8)) (i_3:Int) (check_4:Int) (k_5:Int):Out (List UInt8) :=
 bS Tryz.prog (ah BO) zp N Tryz.f79 false false .str [.at 1,.at 1,.at 0,.at 1,.at 0,.at n0,.at 1,.at 0,.at 0,.at 0,.at 1,.at 0] n1 [.d (.list .str) x.1,.d (.int .i64) x.2.1,U,U,U,.d .str out_1,.d (.int .i64) check_4,.d (.int .i64) i_3,.d (.int .i64) k_5,U,U,U,U,U,U,U,U,U,U,U,U,U,U,U,U,U,U,U,U,U,U,U,U,U,U,U,U,U,U,U,U,U,U,U,U,U,U,U,U,U,U,U,U,U,U,U,U,U,U,U,U,U,U,U,U]
theorem L93_1_succ (N n0 n1:Nat) (x:((List (List UInt8))×(Int×Unit))) (out_1:(List UInt8)) (i_3:Int) (check_4:Int) (k_5:Int):L93_1 N n0 (n1+1) x out_1 i_3 check_4 k_5 =
 (bif (ax i_3 x.1.length) then match (decide (k_5<(ae (List.getD x.1 i_3.toNat ([]:List UInt8))))) with|true=>bif (ax i_3 x.1.length) then bif (ax k_5 (List.getD x.1 i_3.toNat ([]:List UInt8)).length) then L93_1 N n0 n1 x out_1 i_3 (IntKind.i64.wrap (check_4+(IntKind.i64.wrap ((IntKind.i64.wrap ((IntKind.i64.wrap (oU (List.getD x.1 i_3.toNat ([]:List UInt8)) k_5)) * (IntKind.i64.wrap (k_5+1)))) * (IntKind.i64.wrap (i_3+1)))))) (IntKind.i64.wrap (k_5+1)) else .fail else .fail|false=>bif (ax i_3 x.1.length) then bif (decide (out_1.length+(List.getD x.1 i_3.toNat ([]:List UInt8)).length<1000000)) then bif (decide ((out_1++(List.getD x.1 i_3.toNat ([]:List UInt8))).length+([10]:List UInt8).length<1000000)) then L93_0 N n0 x ((out_1++(List.getD x.1 i_3.toNat ([]:List UInt8)))++([10]:List UInt8)) check_4 (IntKind.i64.wrap (i_3+1)) else .fail else .fail else .fail else .fail:Out (List UInt8)):=by kernel_rfl
theorem L93_0_succ (N n0:Nat) (x:((List (List UInt8))×(Int×Unit))) (out_1:(List UInt8)) (check_2:Int) (i_3:Int):L93_0 N  (n0+1) x out_1 check_2 i_3 =
 (match (decide (i_3<(ae x.1))) with|true=>L93_1 N n0 N x out_1 i_3 check_2 0|false=>bif (x.2.1 != 0) then bif (decide (out_1.length+([101,110,100,32]:List UInt8).length<1000000)) then match f92 ((IntKind.i64.wrap ((check_2.tmod x.2.1).tdiv 100)),()) with | .ret r_6=>bif (decide ((out_1++([101,110,100,32]:List UInt8)).length+r_6.length<1000000)) then match f92 (((IntKind.i64.wrap ((check_2.tmod x.2.1).tdiv 10)).tmod 10),()) with | .ret r_8=>bif (decide (((out_1++([101,110,100,32]:List UInt8))++r_6).length+r_8.length<1000000)) then match f92 (((check_2.tmod x.2.1).tmod 10),()) with | .ret r_10=>bif (decide ((((out_1++([101,110,100,32]:List UInt8))++r_6)++r_8).length+r_10.length<1000000)) then bif (decide (((((out_1++([101,110,100,32]:List UInt8))++r_6)++r_8)++r_10).length+([10]:List UInt8).length<1000000)) then .ret (((((out_1++([101,110,100,32]:List UInt8))++r_6)++r_8)++r_10)++([10]:List UInt8)) else .fail else .fail | .pan p=>.pan p | .fail=>.fail else .fail | .pan p=>.pan p | .fail=>.fail else .fail | .pan p=>.pan p | .fail=>.fail else .fail else .fail:Out (List UInt8)):=by kernel_rfl
theorem L114_0_succ (N n0:Nat) (x:((List UInt8)×(Bool×Unit))) (out_3:(List Int)) (t13_4:Nat):L114_0 N  (n0+1) x out_3 t13_4 =
 (match (decide (t13_4<x.1.length)) with|true=>bif (decide (t13_4<x.1.length)) then match x.2.1 with|true=>(match ((uC x.1 t13_4)==63) with|true=>bif (bQ out_3 ([(-1)]:List Int)) then L114_0 N n0 x (out_3++([(-1)]:List Int)) (qN x.1 t13_4) else .fail|false=>match (decide ((uC x.1 t13_4) >= 48)) with|true=>(match f113 ((decide ((uC x.1 t13_4)<=57)),(x.1,())) with | .ret r_5=>bif (bQ out_3 ([(IntKind.i64.wrap (IntKind.i32.wrap ((uC x.1 t13_4) - 48)))]:List Int)) then L114_0 N n0 x (out_3++([(IntKind.i64.wrap (IntKind.i32.wrap ((uC x.1 t13_4) - 48)))]:List Int)) (qN x.1 t13_4) else .fail | .pan p=>.pan p | .fail=>.fail)|false=>match f113 (false,(x.1,())) with | .ret r_7=>bif (bQ out_3 ([(IntKind.i64.wrap (IntKind.i32.wrap ((uC x.1 t13_4) - 48)))]:List Int)) then L114_0 N n0 x (out_3++([(IntKind.i64.wrap (IntKind.i32.wrap ((uC x.1 t13_4) - 48)))]:List Int)) (qN x.1 t13_4) else .fail | .pan p=>.pan p | .fail=>.fail)|false=>match (decide ((uC x.1 t13_4) >= 48)) with|true=>(match f113 ((decide ((uC x.1 t13_4)<=57)),(x.1,())) with | .ret r_9=>bif (bQ out_3 ([(IntKind.i64.wrap (IntKind.i32.wrap ((uC x.1 t13_4) - 48)))]:List Int)) then L114_0 N n0 x (out_3++([(IntKind.i64.wrap (IntKind.i32.wrap ((uC x.1 t13_4) - 48)))]:List Int)) (qN x.1 t13_4) else .fail | .pan p=>.pan p | .fail=>.fail)|false=>match f113 (false,(x.1,())) with | .ret r_11=>bif (bQ out_3 ([(IntKind.i64.wrap (IntKind.i32.wrap ((uC x.1 t13_4) - 48)))]:List Int)) then L114_0 N n0 x (out_3++([(IntKind.i64.wrap (IntKind.i32.wrap ((uC x.1 t13_4) - 48)))]:List Int)) (qN x.1 t13_4) else .fail | .pan p=>.pan p | .fail=>.fail else .fail|false=>.ret out_3:Out (List Int)):=by kernel_rfl
def Yk:List Spec:=[V1]
def Yc:List (Nat×List Nat):=[]
theorem Y4 (N:Nat) (x:(Int×Unit)):aW Tryz.prog (ah Yk) Yc N Tryz.f31 false false (.prod (.int .i64) .unit) .bool x=C8 N x:=by kernel_rfl
theorem X4:am Tryz.prog IA:=bi (l:=Yk) (arg:=(.prod (.int .i64) .unit)) (res:=.bool) (multi:=false) (own:=false) (F:=f46) mixed (all_cons X5 aO) Tryz.func31 rfl Yc fun x _=>⟨fuel,Y4 fuel x⟩
theorem L91_0_succ (N n0:Nat) (x:((List UInt8)×((List Int)×Unit))) (word_1:(List UInt8)) (i_2:Int):L91_0 N  (n0+1) x word_1 i_2 =
 (match (decide (i_2<(ae x.2.1))) with|true=>bif (decide (word_1.length+([32]:List UInt8).length<1000000)) then bif (ax i_2 x.2.1.length) then match f92 ((List.getD x.2.1 i_2.toNat 0),()) with | .ret r_3=>bif (decide ((word_1++([32]:List UInt8)).length+r_3.length<1000000)) then L91_0 N n0 x ((word_1++([32]:List UInt8))++r_3) (IntKind.i64.wrap (i_2+1)) else .fail | .pan p=>.pan p | .fail=>.fail else .fail else .fail|false=>.ret word_1:Out (List UInt8)):=by kernel_rfl
theorem L130a_0_succ (N n0:Nat) (x:(Int×Unit)) (out_1:(List UInt8)) (t36_2:(List Int)) (t38_3:Int):L130a_0 N  (n0+1) x out_1 t36_2 t38_3 =
 (match (decide (t38_3<(ae ([x.1]:List Int)))) with|true=>bif (ax t38_3 t36_2.length) then match P' ((List.getD t36_2 t38_3.toNat 0),()) with | .ret r_4=>bif (decide (([32]:List UInt8).length+r_4.length<1000000)) then bif (decide (out_1.length+(([32]:List UInt8)++r_4).length<1000000)) then L130a_0 N n0 x (out_1++(([32]:List UInt8)++r_4)) t36_2 (IntKind.i64.wrap (t38_3+1)) else .fail else .fail | .pan p=>.pan p | .fail=>.fail else .fail|false=>bif (decide (out_1.length+([]:List UInt8).length<1000000)) then .ret (out_1++([]:List UInt8)) else .fail:Out (List UInt8)):=by kernel_rfl
def L130b_1 (N n1:Nat) (figures_1:(List UInt8)) (x:lp) (out_5:(List UInt8)) (t36_6:(List Int)) (t38_7:Int):Out (List UInt8) :=
 bS Tryz.prog (ah Bv) yZ N Tryz.f105 false false .str [.at 1,.at 1,.at 1,.at 1,.at 0,.at 1,.at 0] n1 [U,U,U,U,.d .str figures_1,U,U,U,.d .str out_5,U,U,U,U,U,U,U,U,U,U,U,U,U,U,U,U,U,U,U,U,U,U,U,U,U,U,U,.own (.int .i64) t36_6 false,.d (.int .i64) (ae ([x.1.1.1]:List Int)),.d (.int .i64) t38_7,U,U,U,U,U,U,U,U,U,U,U,U]
theorem L130b_1_succ (N n1:Nat) (figures_1:(List UInt8)) (x:lp) (out_5:(List UInt8)) (t36_6:(List Int)) (t38_7:Int):L130b_1 N  (n1+1) figures_1 x out_5 t36_6 t38_7 =
 (match (decide (t38_7<(ae ([x.1.1.1]:List Int)))) with|true=>bif (ax t38_7 t36_6.length) then match P' ((List.getD t36_6 t38_7.toNat 0),()) with | .ret r_8=>bif (decide (([32]:List UInt8).length+r_8.length<1000000)) then bif (decide (out_5.length+(([32]:List UInt8)++r_8).length<1000000)) then L130b_1 N n1 figures_1 x (out_5++(([32]:List UInt8)++r_8)) t36_6 (IntKind.i64.wrap (t38_7+1)) else .fail else .fail | .pan p=>.pan p | .fail=>.fail else .fail|false=>bif (decide (out_5.length+figures_1.length<1000000)) then .ret (out_5++figures_1) else .fail:Out (List UInt8)):=by kernel_rfl
theorem L130b_0_succ (N n0:Nat) (x:lp) (figures_1:(List UInt8)) (t19_2:Int):L130b_0 N  (n0+1) x figures_1 t19_2 =
 (match (decide (t19_2<(ae x.1.1.2.1))) with|true=>bif (ax t19_2 x.1.1.2.1.length) then match ((List.getD x.1.1.2.1 t19_2.toNat 0)==(-1)) with|true=>bif (decide (figures_1.length+([63]:List UInt8).length<1000000)) then L130b_0 N n0 x (figures_1++([63]:List UInt8)) (IntKind.i64.wrap (t19_2+1)) else .fail|false=>match P' ((List.getD x.1.1.2.1 t19_2.toNat 0),()) with | .ret r_3=>bif (decide (figures_1.length+r_3.length<1000000)) then L130b_0 N n0 x (figures_1++r_3) (IntKind.i64.wrap (t19_2+1)) else .fail | .pan p=>.pan p | .fail=>.fail else .fail|false=>L130b_1 N N figures_1 x ([99,111,112,121]:List UInt8) ([x.1.1.1]:List Int) 0:Out (List UInt8)):=by kernel_rfl
theorem Y1 (N:Nat) (x:aS):aW Tryz.prog (ah IU) FW N Tryz.f15 false false cB .bool x=C4 N x:=by kernel_rfl
def YL:Spec:=⟨15,.call,cB,.bool,false,false,f17⟩
theorem YX:am Tryz.prog YL:=bi (l:=IU) (arg:=cB) (res:=.bool) (multi:=false) (own:=false) (F:=f17) mixed (all_cons X5 (all_cons X4 aO)) Tryz.func15 rfl FW fun x _=>⟨fuel,Y1 fuel x⟩
def L54_1 (N n0 n1:Nat) (x:aS) (i_4:Int) (rows_7:(List (List UInt8))) (s_8:(List UInt8)) (p_9:Int):Out (List UInt8) :=
 bS Tryz.prog (ah BC) zf N Tryz.f40 false false .str [.at 1,.at 1,.at 0,.at 1,.at 0,.at n0,.at 1,.at 0,.at 0,.at 1,.at 0,.at 1,.at 0] n1 [U,.box [.d (.int .i64) x.1.1,.d ba x.1.2.1],U,.own .str rows_7 false,.d (.int .i64) i_4,.d .str s_8,.d (.int .i64) p_9,U,U,U,U,U,U,U,U,U,U,U,U,U,U,U,U,U,U,U,U,U,U,U,U,U,U,U,U,U,U,U,U,U,U,U,U,U,U,U,U,U,U,U,U,U,U,U,U,U,U,U,U,U,U,U,U,U,U,U,U,U,U]
theorem L54_1_succ (N n0 n1:Nat) (x:aS) (i_4:Int) (rows_7:(List (List UInt8))) (s_8:(List UInt8)) (p_9:Int):L54_1 N n0 (n1+1) x i_4 rows_7 s_8 p_9 =
 (bif (ax i_4 x.1.2.1.length) then match (decide (p_9<(ae ((List.getD x.1.2.1 i_4.toNat (0,([],())))).2.1))) with|true=>bif (ax i_4 x.1.2.1.length) then bif (ax p_9 ((List.getD x.1.2.1 i_4.toNat (0,([],())))).2.1.length) then match (decide ((List.getD ((List.getD x.1.2.1 i_4.toNat (0,([],())))).2.1 p_9.toNat 0)<0)) with|true=>bif (decide (s_8.length+([63]:List UInt8).length<1000000)) then L54_1 N n0 n1 x i_4 rows_7 (s_8++([63]:List UInt8)) (IntKind.i64.wrap (p_9+1)) else .fail|false=>bif (ax i_4 x.1.2.1.length) then bif (ax p_9 ((List.getD x.1.2.1 i_4.toNat (0,([],())))).2.1.length) then match f92 ((List.getD ((List.getD x.1.2.1 i_4.toNat (0,([],())))).2.1 p_9.toNat 0),()) with | .ret r_10=>bif (decide (s_8.length+r_10.length<1000000)) then L54_1 N n0 n1 x i_4 rows_7 (s_8++r_10) (IntKind.i64.wrap (p_9+1)) else .fail | .pan p=>.pan p | .fail=>.fail else .fail else .fail else .fail else .fail|false=>bif (bQ rows_7 ([s_8]:List (List UInt8))) then L54_0 N n0 x (rows_7++([s_8]:List (List UInt8))) (IntKind.i64.wrap (i_4+1)) else .fail else .fail:Out (List UInt8)):=by kernel_rfl
theorem L54_0_succ (N n0:Nat) (x:aS) (rows_3:(List (List UInt8))) (i_4:Int):L54_0 N  (n0+1) x rows_3 i_4 =
 (match (decide (i_4<(ae x.1.2.1))) with|true=>bif (ax i_4 x.1.2.1.length) then match f91 (([99,111,112,121]:List UInt8),(([((List.getD x.1.2.1 i_4.toNat (0,([],())))).1]:List Int),())) with | .ret r_5=>bif (decide (r_5.length+([32]:List UInt8).length<1000000)) then L54_1 N n0 N x i_4 rows_3 (r_5++([32]:List UInt8)) 0 else .fail | .pan p=>.pan p | .fail=>.fail else .fail|false=>match Fl (rows_3,(257,())) with | .ret r=>.ret r | .pan p=>.pan p | .fail=>.fail:Out (List UInt8)):=by kernel_rfl
def L115_2 (N n1 n2:Nat) (t32_9:Int) (rows_3:(List (List UInt8))) (rows_10:(List (List UInt8))) (check_11:Int) (t39_12:Int):Out (List UInt8) :=
 bS Tryz.prog (ah Br) yV N Tryz.f73 false false .str [.at 1,.at 1,.at 1,.at 1,.at 0,.at 1,.at 0,.at n1,.at 1,.at 1,.at 0,.at 0,.at 1,.at 1,.at 0] n2 [U,U,U,.own .str rows_10 false,U,U,.d (.int .i64) check_11,.d (.int .i64) t32_9,.d .str (List.getD rows_3 t32_9.toNat ([]:List UInt8)),U,U,U,U,U,U,U,U,U,U,U,U,U,U,U,U,U,U,U,U,U,.d (.list .str) rows_3,.d (.int .i64) (ae rows_3),.d (.int .i64) t32_9,U,U,U,U,U,.d (.int .i64) (ae (List.getD rows_3 t32_9.toNat ([]:List UInt8))),.d (.int .i64) t39_12,U,U,U,U,U,U,U,U,U,U,U,U,U,U,U,U,U,U,U,U,U,U,U,U,U,U,U,U,U,U,U,U,U,U,U,U,U]
def L115_1 (N n1:Nat) (rows_3:(List (List UInt8))) (rows_7:(List (List UInt8))) (check_8:Int) (t32_9:Int):Out (List UInt8) :=
 bS Tryz.prog (ah Br) yV N Tryz.f73 false false .str [.at 1,.at 1,.at 1,.at 1,.at 0,.at 1,.at 0] n1 [U,U,U,.own .str rows_7 false,U,U,.d (.int .i64) check_8,U,U,U,U,U,U,U,U,U,U,U,U,U,U,U,U,U,U,U,U,U,U,U,.d (.list .str) rows_3,.d (.int .i64) (ae rows_3),.d (.int .i64) t32_9,U,U,U,U,U,U,U,U,U,U,U,U,U,U,U,U,U,U,U,U,U,U,U,U,U,U,U,U,U,U,U,U,U,U,U,U,U,U,U,U,U,U,U,U]
theorem L115_2_succ (N n1 n2:Nat) (t32_9:Int) (rows_3:(List (List UInt8))) (rows_10:(List (List UInt8))) (check_11:Int) (t39_12:Int):L115_2 N n1 (n2+1) t32_9 rows_3 rows_10 check_11 t39_12 =
 (match (decide (t39_12<(ae (List.getD rows_3 t32_9.toNat ([]:List UInt8))))) with|true=>bif (ax t39_12 (List.getD rows_3 t32_9.toNat ([]:List UInt8)).length) then L115_2 N n1 n2 t32_9 rows_3 rows_10 (IntKind.i64.wrap (check_11+(IntKind.i64.wrap ((IntKind.i64.wrap ((IntKind.i64.wrap (oU (List.getD rows_3 t32_9.toNat ([]:List UInt8)) t39_12)) * (IntKind.i64.wrap (t39_12+1)))) * (IntKind.i64.wrap (t32_9+1)))))) (IntKind.i64.wrap (t39_12+1)) else .fail|false=>L115_1 N n1 rows_3 rows_10 check_11 (IntKind.i64.wrap (t32_9+1)):Out (List UInt8)):=by kernel_rfl
theorem L115_1_succ (N n1:Nat) (rows_3:(List (List UInt8))) (rows_7:(List (List UInt8))) (check_8:Int) (t32_9:Int):L115_1 N  (n1+1) rows_3 rows_7 check_8 t32_9 =
 (match (decide (t32_9<(ae rows_3))) with|true=>bif (ax t32_9 rows_3.length) then L115_2 N n1 N t32_9 rows_3 rows_7 check_8 0 else .fail|false=>match P' ((IntKind.i64.wrap ((check_8.tmod 257).tdiv 100)),()) with | .ret r_13=>bif (decide (([101,110,100,32]:List UInt8).length+r_13.length<1000000)) then match P' (((IntKind.i64.wrap ((check_8.tmod 257).tdiv 10)).tmod 10),()) with | .ret r_15=>bif (decide ((([101,110,100,32]:List UInt8)++r_13).length+r_15.length<1000000)) then match P' (((check_8.tmod 257).tmod 10),()) with | .ret r_17=>bif (decide (((([101,110,100,32]:List UInt8)++r_13)++r_15).length+r_17.length<1000000)) then bif (bQ rows_7 ([(((([101,110,100,32]:List UInt8)++r_13)++r_15)++r_17)]:List (List UInt8))) then match f132 ((rows_7++([(((([101,110,100,32]:List UInt8)++r_13)++r_15)++r_17)]:List (List UInt8))),(([10]:List UInt8),())) with | .ret r_19=>bif (decide (r_19.length+([10]:List UInt8).length<1000000)) then .ret (r_19++([10]:List UInt8)) else .fail | .pan p=>.pan p | .fail=>.fail else .fail else .fail | .pan p=>.pan p | .fail=>.fail else .fail | .pan p=>.pan p | .fail=>.fail else .fail | .pan p=>.pan p | .fail=>.fail:Out (List UInt8)):=by kernel_rfl
theorem L115_0_succ (N n0:Nat) (x:aS) (rows_3:(List (List UInt8))) (t18_4:Int):L115_0 N  (n0+1) x rows_3 t18_4 =
 (match (decide (t18_4<(ae x.1.2.1))) with|true=>bif (ax t18_4 x.1.2.1.length) then match EU (((((List.getD x.1.2.1 t18_4.toNat (0,([],())))).1,(((List.getD x.1.2.1 t18_4.toNat (0,([],())))).2.1,())),()),()) with | .ret r_5=>bif (bQ rows_3 ([r_5]:List (List UInt8))) then L115_0 N n0 x (rows_3++([r_5]:List (List UInt8))) (IntKind.i64.wrap (t18_4+1)) else .fail | .pan p=>.pan p | .fail=>.fail else .fail|false=>L115_1 N N rows_3 rows_3 0 0:Out (List UInt8)):=by kernel_rfl
theorem TreeOK.t17 {t:ac} (h:TreeOK t):f17 (t,()) = .ret true:=by
 rcases Wg (t:=t) with ⟨_,h1,_⟩|⟨h1,_⟩
 . exact h1
 . exact absurd h h1
theorem aba {t:ac} (h:¬ TreeOK t):f17 (t,()) = .ret false:=by
 rcases Wg (t:=t) with ⟨h1,_⟩|⟨_,h1,_⟩
 . exact absurd h1 h
 . exact h1
theorem abb {t:ac} (h:¬ TreeOK t):f55 (t,()) = .ret false:=by
 rcases Wg (t:=t) with ⟨h1,_⟩|⟨_,_,h1⟩
 . exact absurd h1 h
 . exact h1
theorem L90_0_succ (N n0:Nat) (x:gU) (r_1:(List (List UInt8))) (t2_13:Int) (t2_14:(List (Int×aE))) (t_15:Int) (t_16:(List (Int×aE))) (t46_17:Int):L90_0 N  (n0+1) x r_1 t2_13 t2_14 t_15 t_16 t46_17 =
 (match (decide (t46_17<(ae (cut r_1 1 (IntKind.i64.wrap ((ae r_1) - 2)))))) with|true=>bif (ax t46_17 (cut r_1 1 (IntKind.i64.wrap ((ae r_1) - 2))).length) then match f112 ((List.getD (cut r_1 1 (IntKind.i64.wrap ((ae r_1) - 2))) t46_17.toNat ([]:List UInt8)),(([32]:List UInt8),())) with | .ret r_18=>(match f113 (((ae r_18)==3),((List.getD (cut r_1 1 (IntKind.i64.wrap ((ae r_1) - 2))) t46_17.toNat ([]:List UInt8)),())) with | .ret r_20=>bif (ax 1 r_18.length) then match f114 ((List.getD r_18 (1:Int).toNat ([]:List UInt8)),(false,())) with | .ret r_22=>(match f113 (((ae r_22)==1),((List.getD (cut r_1 1 (IntKind.i64.wrap ((ae r_1) - 2))) t46_17.toNat ([]:List UInt8)),())) with | .ret r_24=>bif (ax 0 r_22.length) then bif (ax 2 r_18.length) then match f114 ((List.getD r_18 (2:Int).toNat ([]:List UInt8)),(true,())) with | .ret r_26=>bif (bQ t_16 ([((List.getD r_22 (0:Int).toNat 0),(r_26,()))]:List (Int×aE))) then L90_0 N n0 x r_1 t2_13 t2_14 t_15 (t_16++([((List.getD r_22 (0:Int).toNat 0),(r_26,()))]:List (Int×aE))) (IntKind.i64.wrap (t46_17+1)) else .fail | .pan p=>.pan p | .fail=>.fail else .fail else .fail | .pan p=>.pan p | .fail=>.fail) | .pan p=>.pan p | .fail=>.fail else .fail | .pan p=>.pan p | .fail=>.fail) | .pan p=>.pan p | .fail=>.fail else .fail|false=>match f115 ((t_15,(t_16,())),()) with | .ret r_28=>(match f113 ((r_28==x.1),(x.1,())) with | .ret r_30=>.ret (t_15,(t_16,())) | .pan p=>.pan p | .fail=>.fail) | .pan p=>.pan p | .fail=>.fail:Out (Int×qA)):=by kernel_rfl
@[irreducible] def YA:aS->Out Bool:=dG f17
theorem ZR:YA=f17:=by unfold YA;exact dR f17
def Zu:Spec:=⟨15,.call,cB,.bool,false,false,YA⟩
theorem aak:am Tryz.prog Zu:=by
 unfold Zu
 rw [ZR]
 exact YX
def Yi:List Spec:=[dr,Ir]
def Yb:List (Nat×List Nat):=[]
def XI (N:Nat) (x:aS):Out ((List UInt8)×(Int×Unit)):=match f55 (x.1,()) with | .ret r_1=>(match (!r_1) with|true=>.ret (([]:List UInt8),(2,()))|false=>match f115 (x.1,()) with | .ret r_3=>.ret (r_3,(0,())) | .pan p=>.pan p | .fail=>.fail) | .pan p=>.pan p | .fail=>.fail
theorem Y2 (N:Nat) (x:aS):aW Tryz.prog (ah Yi) Yb N Tryz.f38 true false cB (.prod .str (.prod (.int .i64) .unit)) x=XI N x:=by kernel_rfl
def Xf (x:aS):Out ((List UInt8)×(Int×Unit)):=XI fuel x
def Zw:Spec:=⟨38,.call,cB,(.prod .str (.prod (.int .i64) .unit)),true,false,Xf⟩
theorem YY:am Tryz.prog Zw:=bi (l:=Yi) (arg:=cB) (res:=(.prod .str (.prod (.int .i64) .unit))) (multi:=true) (own:=false) (F:=Xf) mixed (all_cons dh (all_cons D8 aO)) Tryz.func38 rfl Yb fun x _=>⟨fuel,Y2 fuel x⟩
def XT:List Spec:=[Iy]
def XK:List (Nat×List Nat):=[(4,[2,3,5])]
def L41n_0 (N n0:Nat) (x:((Int×((List (Int×((List Int)×Unit)))×Unit))×((Int×((List (Int×((List Int)×Unit)))×Unit))×Unit))) (i_1:Int):Out Bool :=
 bS Tryz.prog (ah XT) XK N Tryz.f41 false false .bool [.at 1,.at 1,.at 0,.at 1,.at 0] n0 [U,U,.box [.d (.int .i64) x.1.1,.d ba x.1.2.1],.box [.d (.int .i64) x.2.1.1,.d ba x.2.1.2.1],U,.d (.int .i64) i_1,U,U,U,U,U,U,U,U,U,U,U,U,U,U,U,U,U,U,U,U,U,U,U,U,U,U,U,U,U,U,U,U,U,U,U,U,U,U,U,U,U,U,U,U,U,U,U,U,U,U]
theorem L41n_0_succ (N n0:Nat) (x:((Int×((List (Int×((List Int)×Unit)))×Unit))×((Int×((List (Int×((List Int)×Unit)))×Unit))×Unit))) (i_1:Int):L41n_0 N  (n0+1) x i_1 =
 (match (decide (i_1<(ae x.1.2.1))) with|true=>bif (ax i_1 x.1.2.1.length) then bif (ax i_1 x.2.1.2.1.length) then match (((List.getD x.1.2.1 i_1.toNat (0,([],())))).1 != ((List.getD x.2.1.2.1 i_1.toNat (0,([],())))).1) with|true=>.ret false|false=>bif (ax i_1 x.1.2.1.length) then bif (ax i_1 x.2.1.2.1.length) then match f19 (((List.getD x.1.2.1 i_1.toNat (0,([],())))).2.1,(((List.getD x.2.1.2.1 i_1.toNat (0,([],())))).2.1,())) with | .ret r_2=>(match (!r_2) with|true=>.ret false|false=>L41n_0 N n0 x (IntKind.i64.wrap (i_1+1))) | .pan p=>.pan p | .fail=>.fail else .fail else .fail else .fail else .fail|false=>.ret true:Out Bool):=by kernel_rfl
def XB (N:Nat) (x:((Int×((List (Int×((List Int)×Unit)))×Unit))×((Int×((List (Int×((List Int)×Unit)))×Unit))×Unit))):Out Bool:=match (x.1.1 != x.2.1.1) with|true=>.ret false|false=>match ((ae x.1.2.1) != (ae x.2.1.2.1)) with|true=>.ret false|false=>L41n_0 N N x 0
theorem Y3 (N:Nat) (x:((Int×((List (Int×((List Int)×Unit)))×Unit))×((Int×((List (Int×((List Int)×Unit)))×Unit))×Unit))):aW Tryz.prog (ah XT) XK N Tryz.f41 false false (.prod (.prod (.int .i64) (.prod (.list (.prod (.int .i64) (.prod (.list (.int .i64)) .unit))) .unit)) (.prod (.prod (.int .i64) (.prod (.list (.prod (.int .i64) (.prod (.list (.int .i64)) .unit))) .unit)) .unit)) .bool x=XB N x:=by kernel_rfl
def Xb (x:((Int×((List (Int×((List Int)×Unit)))×Unit))×((Int×((List (Int×((List Int)×Unit)))×Unit))×Unit))):Out Bool:=XB fuel x
def Zx:Spec:=⟨41,.call,(.prod (.prod (.int .i64) (.prod (.list (.prod (.int .i64) (.prod (.list (.int .i64)) .unit))) .unit)) (.prod (.prod (.int .i64) (.prod (.list (.prod (.int .i64) (.prod (.list (.int .i64)) .unit))) .unit)) .unit)),.bool,false,false,Xb⟩
theorem YZ:am Tryz.prog Zx:=bi (l:=XT) (arg:=(.prod (.prod (.int .i64) (.prod (.list (.prod (.int .i64) (.prod (.list (.int .i64)) .unit))) .unit)) (.prod (.prod (.int .i64) (.prod (.list (.prod (.int .i64) (.prod (.list (.int .i64)) .unit))) .unit)) .unit))) (res:=.bool) (multi:=false) (own:=false) (F:=Xb) mixed (all_cons D' aO) Tryz.func41 rfl XK fun x _=>⟨fuel,Y3 fuel x⟩
def ZC:List Spec:=[]
def Zc:List (Nat×List Nat):=[(4,[0,1,5,6,7])]
def L80n_0 (N n0:Nat) (x:((List UInt8)×(Int×Unit))) (out_1:(List (List UInt8))) (from_2:Int) (i_3:Int):Out (List (List UInt8)) :=
 bS Tryz.prog (ah ZC) Zc N Tryz.f80 false true (.list .str) [.at 1,.at 1,.at 1,.at 0,.at 1,.at 0] n0 [.d .str x.1,.d (.int .u8) x.2.1,U,U,U,.own .str out_1 false,.d (.int .i64) from_2,.d (.int .i64) i_3,U,U,U,U,U,U,U,U,U,U,U,U,U,U,U,U,U,U,U,U,U,U,U,U,U,U]
theorem L80n_0_succ (N n0:Nat) (x:((List UInt8)×(Int×Unit))) (out_1:(List (List UInt8))) (from_2:Int) (i_3:Int):L80n_0 N  (n0+1) x out_1 from_2 i_3 =
 (match (decide (i_3<(ae x.1))) with|true=>bif (ax i_3 x.1.length) then match ((oU x.1 i_3)==x.2.1) with|true=>bif (jN from_2 i_3 (ae x.1)) then bif (bQ out_1 ([(cut x.1 from_2 i_3)]:List (List UInt8))) then L80n_0 N n0 x (out_1++([(cut x.1 from_2 i_3)]:List (List UInt8))) (IntKind.i64.wrap (i_3+1)) (IntKind.i64.wrap (i_3+1)) else .fail else .fail|false=>L80n_0 N n0 x out_1 from_2 (IntKind.i64.wrap (i_3+1)) else .fail|false=>bif (jN from_2 (ae x.1) (ae x.1)) then bif (bQ out_1 ([(cut x.1 from_2 (ae x.1))]:List (List UInt8))) then .ret (out_1++([(cut x.1 from_2 (ae x.1))]:List (List UInt8))) else .fail else .fail:Out (List (List UInt8))):=by kernel_rfl
def YU (N:Nat) (x:((List UInt8)×(Int×Unit))):Out (List (List UInt8)):=L80n_0 N N x ([]:List (List UInt8)) 0 0
theorem aay (N:Nat) (x:((List UInt8)×(Int×Unit))):aW Tryz.prog (ah ZC) Zc N Tryz.f80 false true (.prod .str (.prod (.int .u8) .unit)) (.list .str) x=YU N x:=by kernel_rfl
def Xq (x:((List UInt8)×(Int×Unit))):Out (List (List UInt8)):=YU fuel x
def Zz:Spec:=⟨80,.call,(.prod .str (.prod (.int .u8) .unit)),(.list .str),false,true,Xq⟩
theorem ZK:am Tryz.prog Zz:=bi (l:=ZC) (arg:=(.prod .str (.prod (.int .u8) .unit))) (res:=(.list .str)) (multi:=false) (own:=true) (F:=Xq) mixed aO Tryz.func80 rfl Zc fun x _=>⟨fuel,aay fuel x⟩
def YN:List Spec:=[uN]
def YG:List (Nat×List Nat):=[(8,[0,6,7,8,9])]
def L112n_0 (N n0:Nat) (x:((List UInt8)×(Int×Unit))) (n_1:Int) (i_2:Int):Out (Int×(Bool×Unit)) :=
 bS Tryz.prog (ah YN) YG N Tryz.f112 true false (.prod (.int .i64) (.prod .bool .unit)) [.at 1,.at 1,.at 1,.at 1,.at 1,.at 0,.at 1,.at 0] n0 [.d .str x.1,U,U,U,U,U,.d (.int .i64) (-1:Int),.d .str (cut x.1 (1:Int) (ae x.1)),.d (.int .i64) n_1,.d (.int .i64) i_2,U,U,U,U,U,U,U,U,U,U,U,U,U,U,U,U,U,U,U,U,U,U,U,U,U,U,U,U,U,U,U,U,U,U,U,U,U,U,U,U,U,U,U,U,U,U,U,U,U,U,U,U,U]
def L112n_1 (N n1:Nat) (x:((List UInt8)×(Int×Unit))) (n_5:Int) (i_6:Int):Out (Int×(Bool×Unit)) :=
 bS Tryz.prog (ah YN) YG N Tryz.f112 true false (.prod (.int .i64) (.prod .bool .unit)) [.at 1,.at 1,.at 1,.at 1,.at 1,.at 0,.at 1,.at 0] n1 [.d .str x.1,U,U,U,U,U,.d (.int .i64) (1:Int),.d .str x.1,.d (.int .i64) n_5,.d (.int .i64) i_6,U,U,U,U,U,U,U,U,U,U,U,U,U,U,U,U,U,U,U,U,U,U,U,U,U,U,U,U,U,U,U,U,U,U,U,U,U,U,U,U,U,U,U,U,U,U,U,U,U,U,U,U,U]
theorem L112n_0_succ (N n0:Nat) (x:((List UInt8)×(Int×Unit))) (n_1:Int) (i_2:Int):L112n_0 N  (n0+1) x n_1 i_2 =
 (match (decide (i_2<(ae (cut x.1 1 (ae x.1))))) with|true=>bif (ax i_2 (cut x.1 1 (ae x.1)).length) then match (decide ((oU (cut x.1 1 (ae x.1)) i_2)<48)) with|true=>.ret (0,(false,()))|false=>bif (ax i_2 (cut x.1 1 (ae x.1)).length) then match (decide ((oU (cut x.1 1 (ae x.1)) i_2) > 57)) with|true=>.ret (0,(false,()))|false=>bif (ax i_2 (cut x.1 1 (ae x.1)).length) then L112n_0 N n0 x (IntKind.i64.wrap ((IntKind.i64.wrap (10 * n_1))+(IntKind.i64.wrap (IntKind.u8.wrap ((oU (cut x.1 1 (ae x.1)) i_2) - 48))))) (IntKind.i64.wrap (i_2+1)) else .fail else .fail else .fail|false=>match f92 ((IntKind.i64.wrap ((-1) * n_1)),()) with | .ret r_3=>.ret ((IntKind.i64.wrap ((-1) * n_1)),((r_3==x.1),())) | .pan p=>.pan p | .fail=>.fail:Out (Int×(Bool×Unit))):=by kernel_rfl
theorem L112n_1_succ (N n1:Nat) (x:((List UInt8)×(Int×Unit))) (n_5:Int) (i_6:Int):L112n_1 N  (n1+1) x n_5 i_6 =
 (match (decide (i_6<(ae x.1))) with|true=>bif (ax i_6 x.1.length) then match (decide ((oU x.1 i_6)<48)) with|true=>.ret (0,(false,()))|false=>bif (ax i_6 x.1.length) then match (decide ((oU x.1 i_6) > 57)) with|true=>.ret (0,(false,()))|false=>bif (ax i_6 x.1.length) then L112n_1 N n1 x (IntKind.i64.wrap ((IntKind.i64.wrap (10 * n_5))+(IntKind.i64.wrap (IntKind.u8.wrap ((oU x.1 i_6) - 48))))) (IntKind.i64.wrap (i_6+1)) else .fail else .fail else .fail|false=>match f92 ((IntKind.i64.wrap (1 * n_5)),()) with | .ret r_7=>.ret ((IntKind.i64.wrap (1 * n_5)),((r_7==x.1),())) | .pan p=>.pan p | .fail=>.fail:Out (Int×(Bool×Unit))):=by kernel_rfl
def Yq (N:Nat) (x:((List UInt8)×(Int×Unit))):Out (Int×(Bool×Unit)):=match (decide ((ae x.1) > 0)) with|true=>bif (ax 0 x.1.length) then match ((oU x.1 0)==45) with|true=>bif (jN 1 (ae x.1) (ae x.1)) then match (decide ((ae (cut x.1 1 (ae x.1)))<1)) with|true=>.ret (0,(false,()))|false=>match (decide ((ae (cut x.1 1 (ae x.1))) > x.2.1)) with|true=>.ret (0,(false,()))|false=>L112n_0 N N x 0 0 else .fail|false=>match (decide ((ae x.1)<1)) with|true=>.ret (0,(false,()))|false=>match (decide ((ae x.1) > x.2.1)) with|true=>.ret (0,(false,()))|false=>L112n_1 N N x 0 0 else .fail|false=>match (decide ((ae x.1)<1)) with|true=>.ret (0,(false,()))|false=>match (decide ((ae x.1) > x.2.1)) with|true=>.ret (0,(false,()))|false=>L112n_1 N N x 0 0
theorem aau (N:Nat) (x:((List UInt8)×(Int×Unit))):aW Tryz.prog (ah YN) YG N Tryz.f112 true false (.prod .str (.prod (.int .i64) .unit)) (.prod (.int .i64) (.prod .bool .unit)) x=Yq N x:=by kernel_rfl
def XD (x:((List UInt8)×(Int×Unit))):Out (Int×(Bool×Unit)):=Yq fuel x
def Z9:Spec:=⟨112,.call,(.prod .str (.prod (.int .i64) .unit)),(.prod (.int .i64) (.prod .bool .unit)),true,false,XD⟩
theorem aai:am Tryz.prog Z9:=bi (l:=YN) (arg:=(.prod .str (.prod (.int .i64) .unit))) (res:=(.prod (.int .i64) (.prod .bool .unit))) (multi:=true) (own:=false) (F:=XD) mixed (all_cons xY aO) Tryz.func112 rfl YG fun x _=>⟨fuel,aau fuel x⟩
def ZD:List Spec:=[Z9]
def Zd:List (Nat×List Nat):=[(3,[0,1,6,7])]
def L81n_0 (N n0:Nat) (x:((List (List UInt8))×(Int×Unit))) (out_1:(List Int)) (i_2:Int):Out ((List Int)×(Bool×Unit)) :=
 bS Tryz.prog (ah ZD) Zd N Tryz.f81 true false (.prod (.list (.int .i64)) (.prod .bool .unit)) [.at 1,.at 1,.at 0,.at 1,.at 0] n0 [.d (.list .str) x.1,.d (.int .i64) x.2.1,U,U,U,U,.own (.int .i64) out_1 false,.d (.int .i64) i_2,U,U,U,U,U,U,U,U,U,U,U,U,U,U,U,U,U,U,U,U,U,U,U,U]
theorem L81n_0_succ (N n0:Nat) (x:((List (List UInt8))×(Int×Unit))) (out_1:(List Int)) (i_2:Int):L81n_0 N  (n0+1) x out_1 i_2 =
 (match (decide (i_2<(ae x.1))) with|true=>bif (ax i_2 x.1.length) then match XD ((List.getD x.1 i_2.toNat ([]:List UInt8)),(x.2.1,())) with | .ret r_3=>(match (!r_3.2.1) with|true=>.ret ([],(false,()))|false=>bif (bQ out_1 ([r_3.1]:List Int)) then L81n_0 N n0 x (out_1++([r_3.1]:List Int)) (IntKind.i64.wrap (i_2+1)) else .fail) | .pan p=>.pan p | .fail=>.fail else .fail|false=>.ret (out_1,(true,())):Out ((List Int)×(Bool×Unit))):=by kernel_rfl
def YV (N:Nat) (x:((List (List UInt8))×(Int×Unit))):Out ((List Int)×(Bool×Unit)):=L81n_0 N N x [] 0
theorem aaz (N:Nat) (x:((List (List UInt8))×(Int×Unit))):aW Tryz.prog (ah ZD) Zd N Tryz.f81 true false (.prod (.list .str) (.prod (.int .i64) .unit)) (.prod (.list (.int .i64)) (.prod .bool .unit)) x=YV N x:=by kernel_rfl
def XZ (x:((List (List UInt8))×(Int×Unit))):Out ((List Int)×(Bool×Unit)):=YV fuel x
def ZA:Spec:=⟨81,.call,(.prod (.list .str) (.prod (.int .i64) .unit)),(.prod (.list (.int .i64)) (.prod .bool .unit)),true,false,XZ⟩
theorem ZL:am Tryz.prog ZA:=bi (l:=ZD) (arg:=(.prod (.list .str) (.prod (.int .i64) .unit))) (res:=(.prod (.list (.int .i64)) (.prod .bool .unit))) (multi:=true) (own:=false) (F:=XZ) mixed (all_cons aai aO) Tryz.func81 rfl Zd fun x _=>⟨fuel,aaz fuel x⟩
@[irreducible] def Xw:aS->Out ((List UInt8)×(Int×Unit)):=dG Xf
theorem X8:Xw=Xf:=by unfold Xw;exact dR Xf
def XR:Spec:=⟨38,.call,cB,(.prod .str (.prod (.int .i64) .unit)),true,false,Xw⟩
theorem Yt:am Tryz.prog XR:=by
 unfold XR
 rw [X8]
 exact YY
@[irreducible] def Xm:((Int×((List (Int×((List Int)×Unit)))×Unit))×((Int×((List (Int×((List Int)×Unit)))×Unit))×Unit))->Out Bool:=dG Xb
theorem X9:Xm=Xb:=by unfold Xm;exact dR Xb
def XS:Spec:=⟨41,.call,(.prod (.prod (.int .i64) (.prod (.list (.prod (.int .i64) (.prod (.list (.int .i64)) .unit))) .unit)) (.prod (.prod (.int .i64) (.prod (.list (.prod (.int .i64) (.prod (.list (.int .i64)) .unit))) .unit)) .unit)),.bool,false,false,Xm⟩
theorem Yu:am Tryz.prog XS:=by
 unfold XS
 rw [X9]
 exact YZ
theorem ZG {n p:Int} (hp:0<p) {B:Int} (h1 : -B<=n) (h2:n<=B) : -B<=n.tdiv p/\n.tdiv p<=B:=by
 have:=Int.natAbs_tdiv_le_natAbs n p;omega
theorem Xe (n:Int) (h1 : -1000000<=n) (h2:n<=1000000):P' (n,()) = .ret (Lib.itoa n):=by
 unfold P';simp only [dT (show -9223372036854775808<=n by omega),dT (show n<=9223372036854775807 by omega),Bool.and_self,cond_true]
theorem Xc {u:Nat} (h:u<10):Lib.decDigits u=[UInt8.ofNat (48+u)]:=by rw [Lib.decDigits,dif_pos h]
theorem XX {u:Nat} (h:¬ u<10):Lib.decDigits u=Lib.decDigits (u / 10)++[UInt8.ofNat (48+u % 10)]:=by rw [Lib.decDigits,dif_neg h]
theorem XC:∀ (k u:Nat),u<10 ^ (k+1)->(Lib.decDigits u).length<=k+1
 | 0,u,h=>by rw [Xc (by simpa using h)];simp
 | k+1,u,h=>by
  by_cases c:u<10
  . rw [Xc c];simp
  . rw [XX c,List.length_append];have:=XC k (u / 10) (by rw [Nat.pow_succ] at h;omega);simp;omega
theorem Ye (u:Nat):Lib.itoa (u:Int)=Lib.decDigits u:=by unfold Lib.itoa;rw [if_neg (by omega)];simp
theorem aa4 {u:Nat} (h:1<=u):Lib.itoa (-(u:Int))=45 :: Lib.decDigits u:=by unfold Lib.itoa;rw [if_pos (by omega)];simp
theorem XM {n:Int} (h1 : -1000000<n) (h2:n<1000000):(Lib.itoa n).length<=7:=by
 unfold Lib.itoa;split
 . have:=XC 5 n.natAbs (by omega);rw [List.length_cons];omega
 . have:=XC 5 n.toNat (by omega);omega
theorem XW {z:Int} {u:Nat} (h:z=48+(u:Int)) (hu:u<10):dE ([(IntKind.u8.wrap (IntKind.i64.wrap z))]:List Int)=[UInt8.ofNat (48+u)]:=by
 have e1:IntKind.i64.wrap z=z:=wr (by omega) (by omega);have e2:IntKind.u8.wrap z=z:=by
  unfold IntKind.wrap;simp only [IntKind.bits,IntKind.signed];simp;omega
 rw [e1,e2,h];show [UInt8.ofNat (48+(u:Int)).toNat]=_
 congr 2
theorem ZP:∀ (m u:Nat),u<10 ^ (m+1)->u<=1000000->mQ (m+1) ((u:Int),()) = .ret (Lib.decDigits u)/\(1<=u->mQ (m+1) (-(u:Int),()) = .ret (45 :: Lib.decDigits u)):=by
 intro m
 induction m with
 | zero =>
  intro u hu _;have hu':u<10:=by simpa using hu
  constructor
  . show Dh (mQ 0) fuel ((u:Int),())=_;unfold Dh;simp only [dT (show (u:Int) > -10 by omega),dF (show ¬ (u:Int)<0 by omega),dT (show (u:Int)<10 by omega),XW (z:=48+(u:Int)) rfl hu',Xc hu']
  . intro h1;show Dh (mQ 0) fuel (-(u:Int),())=_;unfold Dh;simp only [dT (show -(u:Int) > -10 by omega),dT (show -(u:Int)<0 by omega),XW (z:=48 - -(u:Int)) (by omega) hu',Xc hu'];rfl
 | succ m ih =>
  intro u hu hb;have hg:=ih (u / 10) (by rw [Nat.pow_succ] at hu;omega) (by omega);have hlen:(Lib.decDigits (u / 10)).length<=7:=Nat.le_trans (XC 6 (u / 10) (by omega)) (by omega)
  by_cases c:u<10
  . have q:=(fun h=>Xc (u:=u) h) c;constructor
    . show Dh (mQ (m+1)) fuel ((u:Int),())=_;unfold Dh;simp only [dT (show (u:Int) > -10 by omega),dF (show ¬ (u:Int)<0 by omega),dT (show (u:Int)<10 by omega),XW (z:=48+(u:Int)) rfl c,Xc c]
    . intro h1;show Dh (mQ (m+1)) fuel (-(u:Int),())=_;unfold Dh;simp only [dT (show -(u:Int) > -10 by omega),dT (show -(u:Int)<0 by omega),XW (z:=48 - -(u:Int)) (by omega) c,Xc c];rfl
  . have e1:(u:Int).tdiv 10=((u / 10:Nat):Int):=by rw [Int.tdiv_eq_ediv_of_nonneg (by omega)];omega
    have e2:(u:Int).tmod 10=((u % 10:Nat):Int):=by rw [Int.tmod_eq_emod_of_nonneg (by omega)];omega
    have hs:([UInt8.ofNat (48+u % 10)]:List UInt8).length=1:=rfl;constructor
    . show Dh (mQ (m+1)) fuel ((u:Int),())=_;unfold Dh;have w:IntKind.i64.wrap ((u / 10:Nat):Int)=((u / 10:Nat):Int):=wr (by omega) (by omega);simp only [dT (show (u:Int) > -10 by omega),dF (show ¬ (u:Int)<0 by omega),dF (show ¬ (u:Int)<10 by omega),e1,w,hg.1,e2,XW (z:=48+((u % 10:Nat):Int)) rfl (by omega)];rw [XX c,dT (by omega),cond_true]
    . intro _;show Dh (mQ (m+1)) fuel (-(u:Int),())=_;unfold Dh;have e3:(-(u:Int)).tdiv 10 = -((u / 10:Nat):Int):=by rw [Int.neg_tdiv,e1]
      have e4:(-(u:Int)).tmod 10 = -((u % 10:Nat):Int):=by rw [Int.neg_tmod,e2]
      have w:IntKind.i64.wrap (-((u / 10:Nat):Int)) = -((u / 10:Nat):Int):=wr (by omega) (by omega);simp only [dF (show ¬ -(u:Int) > -10 by omega),dT (show -(u:Int)<0 by omega),e3,w,hg.2 (by omega),e4,XW (z:=48 - -((u % 10:Nat):Int)) (by omega) (show u % 10<10 by omega)];rw [XX c,dT (by rw [List.length_cons];omega),cond_true];rfl
theorem XF (n:Int) (h1 : -1000000<=n) (h2:n<=1000000):f92 (n,()) = .ret (Lib.itoa n):=by
 have hfb:=bK;obtain ⟨j,hj⟩:∃ j,fuel=j+1:=⟨fuel - 1,by omega⟩
 have hp:∀ u:Nat,u<=1000000->u<10 ^ (j+1):=fun u hu=>Nat.lt_of_lt_of_le (show u<10 ^ 7 by omega) (Nat.pow_le_pow_right (by omega) (by omega))
 unfold f92;rw [hj]
 by_cases c:0<=n
 . have e:n=((n.toNat:Nat):Int):=by omega
   rw [e,Ye];exact (ZP j n.toNat (hp _ (by omega)) (by omega)).1
 . have e:n = -((n.natAbs:Nat):Int):=by omega
   rw [e,aa4 (by omega)];exact (ZP j n.natAbs (hp _ (by omega)) (by omega)).2 (by omega)
def Xj (i:Int):Int->Int->List UInt8->Int
 | _,c,[]=>c
 | k,c,b :: bs=>Xj i (k+1) (IntKind.i64.wrap (c+(IntKind.i64.wrap ((IntKind.i64.wrap ((IntKind.i64.wrap ((b.toNat:Nat):Int)) * (IntKind.i64.wrap (k+1)))) * (IntKind.i64.wrap (i+1)))))) bs
def W0:Int->Int->List (List UInt8)->Int
 | _,c,[]=>c
 | i,c,r :: rs=>W0 (i+1) (Xj i 0 c r) rs
theorem X6 (i k c:Int) (b:UInt8) (bs:List UInt8):Xj i k c (b :: bs)=Xj i (k+1) (IntKind.i64.wrap (c+(IntKind.i64.wrap ((IntKind.i64.wrap ((IntKind.i64.wrap ((b.toNat:Nat):Int)) * (IntKind.i64.wrap (k+1)))) * (IntKind.i64.wrap (i+1)))))) bs:=rfl
def WW (c:Int):List UInt8:=[101,110,100,32]++Lib.itoa (IntKind.i64.wrap ((c.tmod 257).tdiv 100))++Lib.itoa ((IntKind.i64.wrap ((c.tmod 257).tdiv 10)).tmod 10)++Lib.itoa ((c.tmod 257).tmod 10)
def WT (rows:List (List UInt8)):List UInt8:=(rows.map (· ++ [10])).flatten++WW (W0 0 0 rows)++[10]
theorem Yw {r:List UInt8} {k:Int} (h1:0<=k) (h2:k<r.length):r.drop k.toNat=List.getD r k.toNat 0 :: r.drop (k+1).toNat:=by
 have h3:k.toNat<r.length:=by omega
 have e:(k+1).toNat=k.toNat+1:=by omega
 rw [List.drop_eq_getElem_cons h3,e,WX,W7 h3];rfl
theorem Yx {rows:List (List UInt8)} {i:Int} (h1:0<=i) (h2:i<rows.length):rows.drop i.toNat=List.getD rows i.toNat ([]:List UInt8) :: rows.drop (i+1).toNat:=by
 have h3:i.toNat<rows.length:=by omega
 have e:(i+1).toNat=i.toNat+1:=by omega
 rw [List.drop_eq_getElem_cons h3,e,WX,W7 h3];rfl
theorem XV (n p:Int) (hp:0<p) : -p<n.tmod p/\n.tmod p<p:=by
 have a:=Int.tmod_lt_of_pos n hp;have b:=Int.tmod_lt_of_pos (-n) hp;rw [Int.neg_tmod] at b;omega
theorem parts (c:Int):(-1000000<=IntKind.i64.wrap ((c.tmod 257).tdiv 100)/\IntKind.i64.wrap ((c.tmod 257).tdiv 100)<=1000000)/\(-1000000<=(IntKind.i64.wrap ((c.tmod 257).tdiv 10)).tmod 10/\(IntKind.i64.wrap ((c.tmod 257).tdiv 10)).tmod 10<=1000000)/\(-1000000<=(c.tmod 257).tmod 10/\(c.tmod 257).tmod 10<=1000000) /\
 (Lib.itoa (IntKind.i64.wrap ((c.tmod 257).tdiv 100))).length<=7/\(Lib.itoa ((IntKind.i64.wrap ((c.tmod 257).tdiv 10)).tmod 10)).length<=7/\(Lib.itoa ((c.tmod 257).tmod 10)).length<=7:=by
 have h1:=XV c 257 (by omega);have h2:=ZG (n:=c.tmod 257) (p:=100) (by omega) (B:=257) (by omega) (by omega);have w:IntKind.i64.wrap ((c.tmod 257).tdiv 100)=(c.tmod 257).tdiv 100:=wr (by omega) (by omega);have h3:=XV (IntKind.i64.wrap ((c.tmod 257).tdiv 10)) 10 (by omega);have h4:=XV (c.tmod 257) 10 (by omega);rw [w];exact ⟨⟨by omega,by omega⟩,⟨by omega,by omega⟩,⟨by omega,by omega⟩,XM (by omega) (by omega),XM (by omega) (by omega),XM (by omega) (by omega)⟩
theorem Yf (e:List UInt8):∀ r:List (List UInt8),Lib.join (r++[e]) [10]=(r.map (· ++ [10])).flatten++e
 | []=>by rw [List.nil_append,Lib.join_one];rfl
 | a :: r=>by
  rw [List.cons_append,Lib.join_cons];have ih:=Yf e r;cases r with
  | nil=>simp [Lib.joinTail]
  | cons b r =>
   rw [List.cons_append,Lib.join_cons] at ih;simp only [List.cons_append,Lib.joinTail,List.map_cons,List.flatten_cons] at ih ⊢;rw [List.append_assoc,ih];simp
def Rs (rows:List (List UInt8)):Prop:=rows.length<=2000/\∀ r∈rows,r.length<=300
theorem XU:∀ rows:List (List UInt8),(∀ r∈rows,r.length<=300)->((rows.map (· ++ [10])).flatten).length<=301 * rows.length
 | [],_=>by simp
 | r :: rows,h=>by
  have:=XU rows fun q hq=>h q (by simp [hq])
  have:=h r (by simp);simp only [List.map_cons,List.flatten_cons,List.length_append,List.length_cons,List.length_nil] at *;omega
theorem YP {rows:List (List UInt8)} (h:Rs rows) {i:Int} (h1:0<=i) (h2:i<rows.length):(List.getD rows i.toNat ([]:List UInt8)).length<=300:=by
 have h3:i.toNat<rows.length:=by omega
 have:List.getD rows i.toNat ([]:List UInt8)∈rows:=by
  rw [WX,W7 h3];exact List.getElem_mem h3
 exact h.2 _ this
theorem YK (rows:List (List UInt8)) (h:Rs rows):∀ (m f:Nat) (i c:Int),m<f->0<=i->i+m=rows.length->L115_1 fuel f rows rows c i = .ret ((rows.map (· ++ [10])).flatten++WW (W0 i c (rows.drop i.toNat))++[10]):=by
 have hfb:=bK;have fl:=XU rows h.2;have hl:=h.1;intro m
 induction m with
 | zero =>
  intro f i c hf hi he;obtain ⟨f,rfl⟩:=ks hf;have ed:rows.drop i.toNat=[]:=List.drop_eq_nil_of_le (by omega);obtain ⟨p1,p2,p3,l1,l2,l3⟩:=parts c;rw [L115_1_succ];try delta ae
  have lf:((rows.map (· ++ [10])).flatten++WW c).length<1000000:=by
   unfold WW;simp only [List.length_append,List.length_cons,List.length_nil];omega
  have e132:f132 (rows++[WW c],([10],())) = .ret ((rows.map (· ++ [10])).flatten++WW c):=by
   unfold f132;simp only [dT (show (rows++[WW c]).length<1000000 by simp;omega),dT lf,Bool.and_self,cond_true,Yf]
  have e132':f132 (rows++[([101,110,100,32]++Lib.itoa (IntKind.i64.wrap ((c.tmod 257).tdiv 100))++Lib.itoa ((IntKind.i64.wrap ((c.tmod 257).tdiv 10)).tmod 10)++Lib.itoa ((c.tmod 257).tmod 10))],([10],())) = .ret ((rows.map (· ++ [10])).flatten++WW c):=e132;have b4:((rows.map (· ++ [10])).flatten++WW c).length+([10]:List UInt8).length<1000000:=by
   unfold WW;simp only [List.length_append,List.length_cons,List.length_nil];omega
  simp only [dF (show ¬ i<(rows.length:Int) by omega),Xe _ p1.1 p1.2,Xe _ p2.1 p2.2,Xe _ p3.1 p3.2,
   dT (show ([101,110,100,32]:List UInt8).length+(Lib.itoa (IntKind.i64.wrap ((c.tmod 257).tdiv 100))).length<1000000 by simp;omega),
   dT (show (([101,110,100,32]:List UInt8)++Lib.itoa (IntKind.i64.wrap ((c.tmod 257).tdiv 100))).length+(Lib.itoa ((IntKind.i64.wrap ((c.tmod 257).tdiv 10)).tmod 10)).length<1000000 by simp;omega),
   dT (show ((([101,110,100,32]:List UInt8)++Lib.itoa (IntKind.i64.wrap ((c.tmod 257).tdiv 100)))++Lib.itoa ((IntKind.i64.wrap ((c.tmod 257).tdiv 10)).tmod 10)).length+(Lib.itoa ((c.tmod 257).tmod 10)).length<1000000 by simp;omega),cond_true,
   kX (show rows.length+([(([101,110,100,32]:List UInt8)++Lib.itoa (IntKind.i64.wrap ((c.tmod 257).tdiv 100))++Lib.itoa ((IntKind.i64.wrap ((c.tmod 257).tdiv 10)).tmod 10)++Lib.itoa ((c.tmod 257).tmod 10))]:List (List UInt8)).length<1000000 by simp;omega),e132',dT b4,ed]
  rfl
 | succ m ih =>
  intro f i c hf hi he;obtain ⟨f,rfl⟩:=ks hf;have hr:=YP h hi (show i<rows.length by omega);have inner:∀ (d g:Nat) (c k:Int),d<g->0<=k->k+d=(List.getD rows i.toNat ([]:List UInt8)).length ->
   L115_2 fuel f g i rows rows c k=L115_1 fuel f rows rows (Xj i k c ((List.getD rows i.toNat ([]:List UInt8)).drop k.toNat)) (i+1):=by
   intro d
   induction d with
   | zero =>
    intro g c k hg hk hd;obtain ⟨g,rfl⟩:=ks hg;rw [L115_2_succ];try delta ae
    have ed:(List.getD rows i.toNat ([]:List UInt8)).drop k.toNat=[]:=List.drop_eq_nil_of_le (by omega);rw [ed];simp only [dF (show ¬ k<((List.getD rows i.toNat ([]:List UInt8)).length:Int) by omega),wr (show -9223372036854775808<=i+1 by omega) (show i+1<=9223372036854775807 by omega)];rfl
   | succ d ihd =>
    intro g c k hg hk hd;obtain ⟨g,rfl⟩:=ks hg;rw [L115_2_succ];try delta ae
    rw [Yw hk (show k<(List.getD rows i.toNat ([]:List UInt8)).length by omega)];simp only [dT (show k<((List.getD rows i.toNat ([]:List UInt8)).length:Int) by omega),aY hk (show k<(List.getD rows i.toNat ([]:List UInt8)).length by omega),cond_true];have wk:IntKind.i64.wrap (k+1)=k+1:=wr (by omega) (by omega);rw [wk];rw [ihd g _ (k+1) (by omega) (by omega) (by omega)];rw [X6,wk];rfl
  rw [L115_1_succ];try delta ae
  rw [Yx hi (show i<rows.length by omega)];simp only [dT (show i<(rows.length:Int) by omega),aY hi (show i<rows.length by omega),cond_true];rw [inner (List.getD rows i.toNat ([]:List UInt8)).length fuel c 0 (by omega) (by omega) (by omega),ih f (i+1) _ (by omega) (by omega) (by omega)];rfl
theorem abi (rows:List (List UInt8)) (h:Rs rows):∀ (m f:Nat) (i c:Int) (out:List UInt8),m<f->0<=i->i+m=rows.length->out=((rows.take i.toNat).map (· ++ [10])).flatten ->
 L93_0 fuel f (rows,(257,())) out c i = .ret ((rows.map (· ++ [10])).flatten++WW (W0 i c (rows.drop i.toNat))++[10]):=by
 have hfb:=bK;have fl:=XU rows h.2;have hl:=h.1;intro m
 induction m with
 | zero =>
  intro f i c out hf hi he ho;obtain ⟨f,rfl⟩:=ks hf;have ed:rows.drop i.toNat=[]:=List.drop_eq_nil_of_le (by omega);have et:rows.take i.toNat=rows:=List.take_of_length_le (by omega);rw [et] at ho;subst ho;obtain ⟨p1,p2,p3,l1,l2,l3⟩:=parts c;rw [L93_0_succ];try delta ae
  simp only [dF (show ¬ i<(rows.length:Int) by omega),nT (show (257:Int)≠0 by decide),XF _ p1.1 p1.2,XF _ p2.1 p2.2,XF _ p3.1 p3.2,ed,
   dT (show ((rows.map (· ++ [10])).flatten).length+([101,110,100,32]:List UInt8).length<1000000 by simp only [List.length_cons,List.length_nil];omega),
   dT (show ((rows.map (· ++ [10])).flatten++([101,110,100,32]:List UInt8)).length+(Lib.itoa (IntKind.i64.wrap ((c.tmod 257).tdiv 100))).length<1000000 by simp only [List.length_append,List.length_cons,List.length_nil];omega),
   dT (show (((rows.map (· ++ [10])).flatten++([101,110,100,32]:List UInt8))++Lib.itoa (IntKind.i64.wrap ((c.tmod 257).tdiv 100))).length+(Lib.itoa ((IntKind.i64.wrap ((c.tmod 257).tdiv 10)).tmod 10)).length<1000000 by simp only [List.length_append,List.length_cons,List.length_nil];omega),
   dT (show ((((rows.map (· ++ [10])).flatten++([101,110,100,32]:List UInt8))++Lib.itoa (IntKind.i64.wrap ((c.tmod 257).tdiv 100)))++Lib.itoa ((IntKind.i64.wrap ((c.tmod 257).tdiv 10)).tmod 10)).length+(Lib.itoa ((c.tmod 257).tmod 10)).length<1000000 by simp only [List.length_append,List.length_cons,List.length_nil];omega),
   dT (show (((((rows.map (· ++ [10])).flatten++([101,110,100,32]:List UInt8))++Lib.itoa (IntKind.i64.wrap ((c.tmod 257).tdiv 100)))++Lib.itoa ((IntKind.i64.wrap ((c.tmod 257).tdiv 10)).tmod 10))++Lib.itoa ((c.tmod 257).tmod 10)).length+([10]:List UInt8).length<1000000 by simp only [List.length_append,List.length_cons,List.length_nil];omega),cond_true]
  unfold WW W0;simp only [List.append_assoc]
 | succ m ih =>
  intro f i c out hf hi he ho;obtain ⟨f,rfl⟩:=ks hf;have hi':i.toNat<rows.length:=by omega
  have hr:=YP h hi (show i<rows.length by omega);have eg:List.getD rows i.toNat ([]:List UInt8)=rows[i.toNat]:=by
   rw [WX,W7 hi'];rfl
  have et:rows.take (i+1).toNat=rows.take i.toNat++[List.getD rows i.toNat ([]:List UInt8)]:=by
   have:(i+1).toNat=i.toNat+1:=by omega
   rw [this,List.take_succ_eq_append_getElem hi',eg]
  have ol:out.length<=301 * i.toNat:=by
   rw [ho];have:=XU (rows.take i.toNat) (fun r hr=>h.2 r (List.mem_of_mem_take hr));have:(rows.take i.toNat).length=i.toNat:=by simp;omega
   omega
  have inner:∀ (d g:Nat) (c k:Int),d<g->0<=k->k+d=(List.getD rows i.toNat ([]:List UInt8)).length ->
   L93_1 fuel f g (rows,(257,())) out i c k=L93_0 fuel f (rows,(257,())) ((out++(List.getD rows i.toNat ([]:List UInt8)))++[10]) (Xj i k c ((List.getD rows i.toNat ([]:List UInt8)).drop k.toNat)) (i+1):=by
   intro d
   induction d with
   | zero =>
    intro g c k hg hk hd;obtain ⟨g,rfl⟩:=ks hg;rw [L93_1_succ];try delta ae
    have ed:(List.getD rows i.toNat ([]:List UInt8)).drop k.toNat=[]:=List.drop_eq_nil_of_le (by omega);rw [ed];simp only [aY hi (show i<rows.length by omega),dF (show ¬ k<((List.getD rows i.toNat ([]:List UInt8)).length:Int) by omega),cond_true,wr (show -9223372036854775808<=i+1 by omega) (show i+1<=9223372036854775807 by omega),
     dT (show out.length+(List.getD rows i.toNat ([]:List UInt8)).length<1000000 by omega),dT (show (out++(List.getD rows i.toNat ([]:List UInt8))).length+([10]:List UInt8).length<1000000 by simp only [List.length_append,List.length_cons,List.length_nil];omega)]
    rfl
   | succ d ihd =>
    intro g c k hg hk hd;obtain ⟨g,rfl⟩:=ks hg;rw [L93_1_succ];try delta ae
    rw [Yw hk (show k<(List.getD rows i.toNat ([]:List UInt8)).length by omega)];simp only [aY hi (show i<rows.length by omega),dT (show k<((List.getD rows i.toNat ([]:List UInt8)).length:Int) by omega),aY hk (show k<(List.getD rows i.toNat ([]:List UInt8)).length by omega),cond_true];have wk:IntKind.i64.wrap (k+1)=k+1:=wr (by omega) (by omega);rw [wk];rw [ihd g _ (k+1) (by omega) (by omega) (by omega),X6,wk];rfl
  rw [L93_0_succ];try delta ae
  rw [Yx hi (show i<rows.length by omega)];simp only [dT (show i<(rows.length:Int) by omega)];rw [inner (List.getD rows i.toNat ([]:List UInt8)).length fuel c 0 (by omega) (by omega) (by omega),ih f (i+1) _ _ (by omega) (by omega) (by omega) (by rw [et,ho];simp)];rfl
theorem XN (s:List UInt8) (c:UInt8) (i:Nat):Lib.occAt s [c] i=(s[i]? == some c):=by
 unfold Lib.occAt;cases h:s.drop i with
 | nil =>
  have:s.length<=i:=by simpa using List.drop_eq_nil_iff.1 h
  rw [List.getElem?_eq_none this];rfl
 | cons a l =>
  have hi:i<s.length:=by
   refine Nat.not_le.1 fun hle=>?_
   rw [List.drop_eq_nil_of_le hle] at h;cases h
  rw [List.drop_eq_getElem_cons hi] at h;injection h with h1 h2;rw [W7 hi,h1];show ((c==a) && _)=_;simp only [List.isPrefixOf,Bool.and_true];rw [Bool.eq_iff_iff,beq_iff_eq,beq_iff_eq];exact ⟨fun h=>by rw [h],fun h=>(Option.some.inj h).symm⟩
theorem Ze {a b:List UInt8} {c:UInt8} (h:c ∉ a):Lib.index (a++c :: b) [c]=a.length:=by
 refine Lib.index_first (by simp) ?_ fun j hj=>?_
 . rw [XN];simp
 . rw [XN,List.getElem?_append_left hj];rw [W7 hj];have:a[j]≠c:=fun e=>h (e ▸ List.getElem_mem hj)
   simp [this]
theorem Zg {a:List UInt8} {c:UInt8} (h:c ∉ a):Lib.index a [c] = -1:=by
 refine Lib.index_none fun j hj=>?_
 rw [XN];cases hh:a[j]? with
 | none=>rfl
 | some b =>
  have:b∈a:=List.mem_of_getElem? hh;have hb:b≠c:=fun e=>h (e ▸ this)
  simp [hb]
theorem Xz {a:List UInt8} {c:UInt8} (h:c ∉ a):Lib.split a [c]=[a]:=by
 unfold Lib.split;rw [Lib.count_miss (Zg h)];rfl
theorem Xr {a b:List UInt8} {c:UInt8} (h:c ∉ a):Lib.split (a++c :: b) [c]=a :: Lib.split b [c]:=by
 unfold Lib.split;have hi:=Ze (b:=b) h;have ed:(a++c :: b).drop (a.length+1)=b:=by simp
 rw [Lib.count_hit (by simp) hi];have e1:([c]:List UInt8).length=1:=rfl;rw [e1,ed,Nat.add_comm 1];show (if Lib.index (a++c :: b) [c] == -1 then _ else _)=_;have ne:((a.length:Int) == -1)=false:=eF (by omega);rw [hi,ne];simp only [Bool.false_eq_true,if_false,Int.toNat_natCast,Nat.add_zero,e1,ed];rw [List.take_left]
theorem Xu (s:List UInt8) (c:UInt8) (h:s.length<1000000):f112 (s,([c],())) = .ret (Lib.split s [c]):=by
 have e:=Lib.splitB_all ⟨⟨[c]⟩⟩ (Nat.le_refl 1) 0 (Lib.countB ⟨⟨s⟩⟩ ⟨⟨[c]⟩⟩) ⟨⟨s⟩⟩ rfl;unfold f112 V3;simp only [dT h,dT (show 1<=([c]:List UInt8).length by simp),dT e,Bool.and_self,cond_true];rw [Lib.splitB_data];rfl
theorem aab (c:UInt8) (e:List UInt8) (he:c ∉ e):∀ rows:List (List UInt8),(∀ r∈rows,c ∉ r)->Lib.split ((rows.map (· ++ [c])).flatten++e++[c]) [c]=rows++[e,[]]
 | [],_=>by
  have:=Xr (b:=[]) he;rw [Xz (a:=[]) (show c ∉ ([]:List UInt8) by simp)] at this
  simpa using this
 | r :: rows,h=>by
  have ih:=aab c e he rows fun q hq=>h q (by simp [hq])
  have e1:(((r :: rows).map (· ++ [c])).flatten++e++[c])=r++c :: ((rows.map (· ++ [c])).flatten++e++[c]):=by simp
  rw [e1,Xr (h r (by simp)),ih];rfl
def fd:Int->List UInt8->Int
 | n,[]=>n
 | n,b :: bs=>fd (10 * n+(((b.toNat:Nat):Int) - 48)) bs
theorem ZW (b:UInt8):∀ (l:List UInt8) (n:Int),fd n (l++[b])=10 * fd n l+(((b.toNat:Nat):Int) - 48)
 | [],_=>rfl
 | a :: l,n=>by rw [List.cons_append];exact ZW b l _
theorem Xt {d:Nat} (h:d<10):(UInt8.ofNat (48+d)).toNat=48+d:=by
 rw [UInt8.toNat_ofNat'];omega
theorem ZO:∀ (k u:Nat),u<=k->(∀ b∈Lib.decDigits u,48<=b.toNat/\b.toNat<=57)/\fd 0 (Lib.decDigits u)=u/\Lib.decDigits u≠[]:=by
 intro k
 induction k with
 | zero =>
  intro u hu;have:u=0:=by omega
  subst this;rw [Xc (by omega)];exact ⟨fun b hb=>by rw [List.mem_singleton.1 hb];decide,rfl,by simp⟩
 | succ k ih =>
  intro u hu
  by_cases c:u<10
  . rw [Xc c];refine ⟨fun b hb=>?_,?_,by simp⟩
    . rw [List.mem_singleton.1 hb,Xt c];omega
    . unfold fd fd;rw [Xt c];omega
  . obtain ⟨h1,h2,h3⟩:=ih (u / 10) (by omega);rw [XX c];refine ⟨fun b hb=>?_,?_,by simp⟩
    . rcases List.mem_append.1 hb with hb|hb
      . exact h1 b hb
      . rw [List.mem_singleton.1 hb,Xt (by omega)];omega
    . rw [ZW,h2,Xt (by omega)];omega
theorem aa3 (n:Int):∀ b∈Lib.itoa n,b=45\/(48<=b.toNat/\b.toNat<=57):=by
 intro b hb;unfold Lib.itoa at hb;split at hb
 . rcases List.mem_cons.1 hb with rfl|hb
   . exact .inl rfl
   . exact .inr ((ZO _ _ (Nat.le_refl _)).1 b hb)
 . exact .inr ((ZO _ _ (Nat.le_refl _)).1 b hb)
theorem Zk {n:Int} {c:UInt8} (h:c=32\/c=10):c ∉ Lib.itoa n:=by
 intro hc;rcases aa3 n c hc with e|e
 . subst e;rcases h with h|h<;>cases h
 . rcases h with rfl|rfl<;>simp at e
theorem abh {w:List UInt8} {p:Nat} (h:p<w.length) (ha:(w.getD p 0).toNat<128):uC w p=(((w.getD p 0).toNat:Nat):Int)/\qN w p=p+1:=by
 have e:w.getD p 0=w[p]:=by rw [WX,W7 h];rfl
 have hs:p<(⟨⟨w⟩⟩:ByteArray).size:=h;have hd:=decode_ascii ⟨⟨w⟩⟩ p hs (by show (w[p]).toNat<128;rw [<- e];exact ha);have hd':Utf8.decode ⟨⟨w⟩⟩ p=((w[p]).toNat,1):=hd;unfold uC qN;rw [hd',dT h,e];exact ⟨rfl,rfl⟩
theorem YQ {x:Int} (h1 : -2147483648<=x) (h2:x<=2147483647):IntKind.i32.wrap x=x:=by
 unfold IntKind.wrap;simp only [IntKind.bits,IntKind.signed];simp;split<;>omega
theorem WY (s:List UInt8):f113 (true,(s,())) = .ret ():=rfl
theorem aaD (c:Int):(10:UInt8) ∉ WW c:=by
 unfold WW;intro h;rcases List.mem_append.1 h with h|h
 . rcases List.mem_append.1 h with h|h
   . rcases List.mem_append.1 h with h|h
     . revert h;decide
     . exact Zk (.inr rfl) h
   . exact Zk (.inr rfl) h
 . exact Zk (.inr rfl) h
def WR (n:Int):UInt8:=UInt8.ofNat (48+n.toNat)
def W6 (f:Int):UInt8:=if f = -1 then 63 else WR f
def WS (l:List Int):List UInt8:=l.map W6
def WV (n:Int):List UInt8:=[99,111,112,105,101,115]++32 :: [WR n]
def WU (c:gg):List UInt8:=[99,111,112,121]++32 :: (WR c.1 :: 32 :: WS c.2.1)
def WQ (t:ac):List (List UInt8):=WV t.1 :: t.2.1.map WU
def Xi (f:Int):Prop:=f = -1\/(0<=f/\f<=9)
theorem XY {n:Int} (h0:0<=n) (h9:n<=9):(WR n).toNat=48+n.toNat:=Xt (by omega)
theorem Xo {n:Int} (h0:0<=n) (h9:n<=9):Lib.itoa n=[WR n]:=by
 have e:n=((n.toNat:Nat):Int):=by omega
 rw [e,Ye,Xc (by omega)];unfold WR;rw [Int.toNat_natCast]
theorem Xg (l:List Int):(WS l).length=l.length:=by unfold WS;simp
theorem ZX {l:List Int} {p:Nat} (h:p<l.length):(WS l).getD p 0=W6 (l.getD p 0):=by
 unfold WS;simp [WX,List.getElem?_map,W7 h]
theorem YE {f:Int} (h:Xi f):(W6 f).toNat=63\/(48<=(W6 f).toNat/\(W6 f).toNat<=57):=by
 unfold W6;split
 . exact .inl rfl
 . rcases h with h|h
   . contradiction
   . rw [XY h.1 h.2];omega
theorem Xx {f:Int} (h:Xi f) {c:UInt8} (hc:c=32\/c=10):c≠W6 f:=by
 rintro rfl;have:=YE h;rcases hc with e|e<;>rw [e] at this<;>simp at this
theorem Xd {n:Int} (h0:0<=n):WR n=W6 n:=by unfold W6;rw [if_neg (by omega)]
theorem YF {l:List Int} (h:∀ x∈l,Xi x) {c:UInt8} (hc:c=32\/c=10):c ∉ WS l:=fun hm=>by
 obtain ⟨x,hx,e⟩:=List.mem_map.1 hm;exact Xx (h x hx) hc e.symm
structure RowIn (c:gg):Prop where
 par:0<=c.1/\c.1<=9
 len:1<=c.2.1.length/\c.2.1.length<=3
 fig:∀ x∈c.2.1,Xi x
theorem Yh {t:ac} (ht:TreeOK t) {k:Nat} (hk:k<t.2.1.length):RowIn (t.2.1.getD k bh) where
 par:=by
  have h:=(ht.node k hk).par;have e:(bW t k).1=(t.2.1.getD k bh).1:=rfl;have hc:=ht.copies;rw [e] at h;split at h<;>omega
 len:=by
  have h:=(ht.node k hk).len;have e:(bW t k).2.1=(t.2.1.getD k bh).2.1:=rfl;have hP:=ht.places;rw [e] at h;omega
 fig x hx:=by
  have h:=(ht.node k hk).fig;obtain ⟨p,hp,rfl⟩:=ud hx;exact h p hp
theorem Yg {t:ac} (ht:TreeOK t):∀ c∈t.2.1,RowIn c:=fun c hc=>by
 obtain ⟨i,hi,e⟩:=List.mem_iff_getElem.1 hc;have h:=Yh ht hi;rw [WX,W7 hi] at h;rw [<- e];exact h
theorem YI {c:gg} (h:RowIn c):(WU c).length<=10:=by
 have:=h.len;unfold WU;simp only [List.length_append,List.length_cons,List.length_nil,Xg];omega
theorem abg {t:ac} (ht:TreeOK t):Rs (WQ t):=by
 have hc:=ht.copies;refine ⟨by unfold WQ;simp;omega,fun r hr=>?_⟩;rcases List.mem_cons.1 hr with rfl|hr
 . unfold WV;simp
 . obtain ⟨c,h1,rfl⟩:=List.mem_map.1 hr;have:=YI (Yg ht c h1);omega
theorem Yz {n:Int} (h0:0<=n) (h9:n<=9):yx (n,()) = .ret (WV n):=by
 have hfb:=bK;obtain ⟨j,hj⟩:∃ j,fuel=j+1+1:=⟨fuel - 2,by omega⟩
 unfold yx C0;have key:∀ N j:Nat,L130a_0 N (j+1+1) (n,()) [99,111,112,105,101,115] [n] 0 = .ret (WV n):=by
  intro N j;rw [L130a_0_succ];try delta ae
  simp only [show (([n]:List Int).length:Int)=1 from rfl,dT (show (0:Int)<1 by decide),show ax 0 ([n]:List Int).length=true from rfl,show List.getD [n] (0:Int).toNat 0=n from rfl,cond_true,Xe n (by omega) (by omega),Xo h0 h9,dT (show ([32]:List UInt8).length+[WR n].length<1000000 by simp),dT (show ([99,111,112,105,101,115]:List UInt8).length+(([32]:List UInt8)++[WR n]).length<1000000 by simp),show IntKind.i64.wrap (0+1)=1 from rfl];rw [L130a_0_succ];try delta ae
  simp only [show (([n]:List Int).length:Int)=1 from rfl,dF (show ¬ (1:Int)<1 by decide),dT (show (([99,111,112,105,101,115]:List UInt8)++(([32]:List UInt8)++[WR n])).length+([]:List UInt8).length<1000000 by simp),cond_true];rfl
 have:=key fuel j;rw [<- hj] at this;exact this
theorem aaO {c:gg} (h:RowIn c):EU (((c.1,(c.2.1,())),()),()) = .ret (WU c):=by
 have hfb:=bK;obtain ⟨j,hj⟩:∃ j,fuel=j+1+1:=⟨fuel - 2,by omega⟩
 have hlen:=h.len;unfold EU C2;have tail:∀ N j:Nat,L130b_1 N (j+1+1) (32 :: WS c.2.1) (((c.1,(c.2.1,())),()),()) [99,111,112,121] [c.1] 0 = .ret (WU c):=by
  intro N j;rw [L130b_1_succ];try delta ae
  simp only [show (([c.1]:List Int).length:Int)=1 from rfl,dT (show (0:Int)<1 by decide),show ax 0 ([c.1]:List Int).length=true from rfl,show List.getD [c.1] (0:Int).toNat 0=c.1 from rfl,cond_true,Xe c.1 (by have:=h.par;omega) (by have:=h.par;omega),Xo h.par.1 h.par.2,dT (show ([32]:List UInt8).length+[WR c.1].length<1000000 by simp),dT (show ([99,111,112,121]:List UInt8).length+(([32]:List UInt8)++[WR c.1]).length<1000000 by simp),show IntKind.i64.wrap (0+1)=1 from rfl];rw [L130b_1_succ];try delta ae
  simp only [show (([c.1]:List Int).length:Int)=1 from rfl,dF (show ¬ (1:Int)<1 by decide),dT (show (([99,111,112,121]:List UInt8)++(([32]:List UInt8)++[WR c.1])).length+(32 :: WS c.2.1).length<1000000 by simp only [List.length_append,List.length_cons,List.length_nil,Xg];omega),cond_true];rfl
 have key:=dQ (L:=fun n i=>L130b_0 fuel n (((c.1,(c.2.1,())),()),()) (32 :: WS (c.2.1.take i)) i) (len:=c.2.1.length) (K:=.ret (WU c)) (fun n i hi=>?_) (fun n=>?_) c.2.1.length fuel 0 (by omega) (by omega)
 . exact key
 . try dsimp only
   rw [L130b_0_succ]
   try delta ae
   have hf:=h.fig _ (jh (z:=(0:Int)) hi);have es:WS (c.2.1.take (i+1))=WS (c.2.1.take i)++[W6 (c.2.1.getD i 0)]:=by unfold WS;rw [B7 0 hi,List.map_append];rfl
   have el:(32 :: WS (c.2.1.take i)).length<=4:=by rw [List.length_cons,Xg,List.length_take];omega
   rw [es];simp only [dT (show (i:Int)<c.2.1.length by omega),aY (show (0:Int)<=i by omega) (show (i:Int)<c.2.1.length by omega),cond_true,Int.toNat_natCast,wn (show i<1000000000 by omega)];rcases hf with e|e
   . simp only [eT e,dT (show (32 :: WS (c.2.1.take i)).length+([63]:List UInt8).length<1000000 by simp only [List.length_cons,List.length_nil] at el ⊢;omega),cond_true];rw [e];rfl
   . simp only [eF (show c.2.1.getD i 0 ≠ -1 by omega),Xe (c.2.1.getD i 0) (by omega) (by omega),Xo e.1 e.2,dT (show (32 :: WS (c.2.1.take i)).length+[WR (c.2.1.getD i 0)].length<1000000 by simp only [List.length_cons,List.length_nil] at el ⊢;omega),cond_true];rw [Xd e.1];rfl
 . try dsimp only
   rw [L130b_0_succ]
   try delta ae
   simp only [dF (show ¬ ((c.2.1.length:Nat):Int)<c.2.1.length by omega),List.take_length];have:=tail fuel j;rw [<- hj] at this;exact this
theorem aaN {t:ac} (ht:TreeOK t):f115 (t,()) = .ret (WT (WQ t)):=by
 have hfb:=bK;have hc:=ht.copies;have hP:=ht.places;have rs:=abg ht;unfold f115 CQ;simp only [Yz (show 0<=t.1 by omega) (show t.1<=9 by omega)];have key:=dQ (L:=fun n k=>L115_0 fuel n (t,()) (WV t.1 :: (t.2.1.take k).map WU) k) (len:=t.2.1.length) (K:=.ret (WT (WQ t))) (fun n k hk=>?_) (fun n=>?_) t.2.1.length fuel 0 (by omega) (by omega)
 . exact key
 . try dsimp only
   rw [L115_0_succ]
   try delta ae
   have eb:EU ((((t.2.1.getD k bh).1,((t.2.1.getD k bh).2.1,())),()),()) = .ret (WU (t.2.1.getD k bh)):=aaO (Yh ht hk);have el:(WV t.1 :: (t.2.1.take k).map WU).length<=9:=by rw [List.length_cons,List.length_map,List.length_take];omega
   have es:WV t.1 :: (t.2.1.take (k+1)).map WU=(WV t.1 :: (t.2.1.take k).map WU)++[WU (t.2.1.getD k bh)]:=by rw [B7 bh hk,List.map_append];rfl
   rw [es];simp only [dT (show (k:Int)<t.2.1.length by omega),aY (show (0:Int)<=k by omega) (show (k:Int)<t.2.1.length by omega),cond_true,Int.toNat_natCast,wn (show k<1000000000 by omega),eb,kX (xs:=WV t.1 :: (t.2.1.take k).map WU) (ys:=[WU (t.2.1.getD k bh)]) (by simp only [List.length_cons,List.length_nil] at el ⊢;omega)]
 . try dsimp only
   rw [L115_0_succ]
   try delta ae
   simp only [dF (show ¬ ((t.2.1.length:Nat):Int)<t.2.1.length by omega),List.take_length];exact YK (WQ t) rs (WQ t).length fuel 0 0 (by have:=rs.1;omega) (by omega) (by omega)
theorem ZV {w:List UInt8} (hw:w.length<=10) {n:Int} (h0:0<=n) (h9:n<=9):f91 (w,([n],())) = .ret (w++[32]++[WR n]):=by
 have hfb:=bK;obtain ⟨j,hj⟩:∃ j,fuel=j+1+1:=⟨fuel - 2,by omega⟩
 unfold f91 Dg;have key:∀ N j:Nat,L91_0 N (j+1+1) (w,([n],())) w 0 = .ret (w++[32]++[WR n]):=by
  intro N j;rw [L91_0_succ];try delta ae
  simp only [show (([n]:List Int).length:Int)=1 from rfl,dT (show (0:Int)<1 by decide),show ax 0 ([n]:List Int).length=true from rfl,show List.getD [n] (0:Int).toNat 0=n from rfl,cond_true,XF n (by omega) (by omega),Xo h0 h9,dT (show w.length+([32]:List UInt8).length<1000000 by simp;omega),dT (show (w++([32]:List UInt8)).length+[WR n].length<1000000 by simp;omega),show IntKind.i64.wrap (0+1)=1 from rfl];rw [L91_0_succ];try delta ae
  simp only [show (([n]:List Int).length:Int)=1 from rfl,dF (show ¬ (1:Int)<1 by decide)]
 have:=key fuel j;rw [<- hj] at this;exact this
theorem ZZ {n:Int} (h0:0<=n) (h9:n<=9):Lib.split (WV n) [32]=[[99,111,112,105,101,115],[WR n]]:=by
 unfold WV;rw [Xr (by decide),Xz (fun h=>by
  rw [Xd h0] at h;exact Xx (.inr ⟨h0,h9⟩) (.inl rfl) (List.mem_singleton.1 h))]
theorem Za {n:Int} (h0:0<=n) (h9:n<=9):(10:UInt8) ∉ WV n:=by
 unfold WV;intro h;rcases List.mem_append.1 h with h|h
 . revert h;decide
 . rcases List.mem_cons.1 h with h|h
   . cases h
   . rw [Xd h0] at h;exact Xx (.inr ⟨h0,h9⟩) (.inr rfl) (List.mem_singleton.1 h)
theorem aaU {t:ac} (ht:TreeOK t):Xb (t,(t,())) = .ret true:=by
 have hfb:=bK;have hc:=ht.copies;have hP:=ht.places;unfold Xb XB
 try delta ae
 simp only [nF (show t.1=t.1 from rfl),nF (show (t.2.1.length:Int)=t.2.1.length from rfl)];have key:=dQ (L:=fun n k=>L41n_0 fuel n (t,(t,())) k) (len:=t.2.1.length) (K:=.ret true) (fun n k hk=>?_) (fun n=>?_) t.2.1.length fuel 0 (by omega) (by omega)
 . exact key
 . try dsimp only
   rw [L41n_0_succ]
   try delta ae
   have hr:=Yh ht hk;have hl:=hr.len;simp only [dT (show (k:Int)<t.2.1.length by omega),aY (show (0:Int)<=k by omega) (show (k:Int)<t.2.1.length by omega),cond_true,Int.toNat_natCast,wn (show k<1000000000 by omega),nF (show (t.2.1.getD k bh).1=(t.2.1.getD k bh).1 from rfl),EZ (t.2.1.getD k bh).2.1 (t.2.1.getD k bh).2.1 (by omega),decide_true,Bool.not_true]
 . try dsimp only
   rw [L41n_0_succ]
   try delta ae
   simp only [dF (show ¬ ((t.2.1.length:Nat):Int)<t.2.1.length by omega)]
theorem aaR {t:ac} (ht:TreeOK t):Xf (t,()) = .ret (WT (WQ t),(0,())):=by
 unfold Xf XI;simp only [ht.t55,Bool.not_true,aaN ht]
structure RowG (c:gg):Prop where
 par:0<=c.1/\c.1<=9
 len:c.2.1.length<=220
 fig:∀ x∈c.2.1,Xi x
structure TreeG (t:ac):Prop where
 places:0<=t.1/\t.1<=9
 copies:t.2.1.length<=220
 row:∀ c∈t.2.1,RowG c
theorem X0 {t:ac} (ht:TreeG t) {k:Nat} (hk:k<t.2.1.length):RowG (t.2.1.getD k bh):=ht.row _ (jh hk)
theorem XQ {t:ac} (ht:TreeG t):Rs (WQ t):=by
 have hc:=ht.copies;refine ⟨by unfold WQ;simp;omega,fun r hr=>?_⟩;rcases List.mem_cons.1 hr with rfl|hr
 . unfold WV;simp
 . obtain ⟨c,h1,rfl⟩:=List.mem_map.1 hr;have:=(ht.row c h1).len;unfold WU;simp only [List.length_append,List.length_cons,List.length_nil,Xg];omega
theorem Y9 {c:gg} (h:RowG c):EU (((c.1,(c.2.1,())),()),()) = .ret (WU c):=by
 have hfb:=bK;obtain ⟨j,hj⟩:∃ j,fuel=j+1+1:=⟨fuel - 2,by omega⟩
 have hlen:=h.len;unfold EU C2;have tail:∀ N j:Nat,L130b_1 N (j+1+1) (32 :: WS c.2.1) (((c.1,(c.2.1,())),()),()) [99,111,112,121] [c.1] 0 = .ret (WU c):=by
  intro N j;rw [L130b_1_succ];try delta ae
  simp only [show (([c.1]:List Int).length:Int)=1 from rfl,dT (show (0:Int)<1 by decide),show ax 0 ([c.1]:List Int).length=true from rfl,show List.getD [c.1] (0:Int).toNat 0=c.1 from rfl,cond_true,Xe c.1 (by have:=h.par;omega) (by have:=h.par;omega),Xo h.par.1 h.par.2,dT (show ([32]:List UInt8).length+[WR c.1].length<1000000 by simp),dT (show ([99,111,112,121]:List UInt8).length+(([32]:List UInt8)++[WR c.1]).length<1000000 by simp),show IntKind.i64.wrap (0+1)=1 from rfl];rw [L130b_1_succ];try delta ae
  simp only [show (([c.1]:List Int).length:Int)=1 from rfl,dF (show ¬ (1:Int)<1 by decide),dT (show (([99,111,112,121]:List UInt8)++(([32]:List UInt8)++[WR c.1])).length+(32 :: WS c.2.1).length<1000000 by simp only [List.length_append,List.length_cons,List.length_nil,Xg];omega),cond_true];rfl
 have key:=dQ (L:=fun n i=>L130b_0 fuel n (((c.1,(c.2.1,())),()),()) (32 :: WS (c.2.1.take i)) i) (len:=c.2.1.length) (K:=.ret (WU c)) (fun n i hi=>?_) (fun n=>?_) c.2.1.length fuel 0 (by omega) (by omega)
 . exact key
 . try dsimp only
   rw [L130b_0_succ]
   try delta ae
   have hf:=h.fig _ (jh (z:=(0:Int)) hi);have es:WS (c.2.1.take (i+1))=WS (c.2.1.take i)++[W6 (c.2.1.getD i 0)]:=by unfold WS;rw [B7 0 hi,List.map_append];rfl
   have el:(32 :: WS (c.2.1.take i)).length<=221:=by rw [List.length_cons,Xg,List.length_take];omega
   rw [es];simp only [dT (show (i:Int)<c.2.1.length by omega),aY (show (0:Int)<=i by omega) (show (i:Int)<c.2.1.length by omega),cond_true,Int.toNat_natCast,wn (show i<1000000000 by omega)];rcases hf with e|e
   . simp only [eT e,dT (show (32 :: WS (c.2.1.take i)).length+([63]:List UInt8).length<1000000 by simp only [List.length_cons,List.length_nil] at el ⊢;omega),cond_true];rw [e];rfl
   . simp only [eF (show c.2.1.getD i 0 ≠ -1 by omega),Xe (c.2.1.getD i 0) (by omega) (by omega),Xo e.1 e.2,dT (show (32 :: WS (c.2.1.take i)).length+[WR (c.2.1.getD i 0)].length<1000000 by simp only [List.length_cons,List.length_nil] at el ⊢;omega),cond_true];rw [Xd e.1];rfl
 . try dsimp only
   rw [L130b_0_succ]
   try delta ae
   simp only [dF (show ¬ ((c.2.1.length:Nat):Int)<c.2.1.length by omega),List.take_length];have:=tail fuel j;rw [<- hj] at this;exact this
theorem X7 {t:ac} (ht:TreeG t):f115 (t,()) = .ret (WT (WQ t)):=by
 have hfb:=bK;have hc:=ht.copies;have hP:=ht.places;have rs:=XQ ht;unfold f115 CQ;simp only [Yz (show 0<=t.1 by omega) (show t.1<=9 by omega)];have key:=dQ (L:=fun n k=>L115_0 fuel n (t,()) (WV t.1 :: (t.2.1.take k).map WU) k) (len:=t.2.1.length) (K:=.ret (WT (WQ t))) (fun n k hk=>?_) (fun n=>?_) t.2.1.length fuel 0 (by omega) (by omega)
 . exact key
 . try dsimp only
   rw [L115_0_succ]
   try delta ae
   have eb:EU ((((t.2.1.getD k bh).1,((t.2.1.getD k bh).2.1,())),()),()) = .ret (WU (t.2.1.getD k bh)):=Y9 (X0 ht hk);have el:(WV t.1 :: (t.2.1.take k).map WU).length<=221:=by rw [List.length_cons,List.length_map,List.length_take];omega
   have es:WV t.1 :: (t.2.1.take (k+1)).map WU=(WV t.1 :: (t.2.1.take k).map WU)++[WU (t.2.1.getD k bh)]:=by rw [B7 bh hk,List.map_append];rfl
   rw [es];simp only [dT (show (k:Int)<t.2.1.length by omega),aY (show (0:Int)<=k by omega) (show (k:Int)<t.2.1.length by omega),cond_true,Int.toNat_natCast,wn (show k<1000000000 by omega),eb,kX (xs:=WV t.1 :: (t.2.1.take k).map WU) (ys:=[WU (t.2.1.getD k bh)]) (by simp only [List.length_cons,List.length_nil] at el ⊢;omega)]
 . try dsimp only
   rw [L115_0_succ]
   try delta ae
   simp only [dF (show ¬ ((t.2.1.length:Nat):Int)<t.2.1.length by omega),List.take_length];exact YK (WQ t) rs (WQ t).length fuel 0 0 (by have:=rs.1;omega) (by omega) (by omega)
theorem ZE (c:UInt8) {Q:List UInt8->List (List UInt8)->Prop} (h0:∀ a,c ∉ a->Q a [a]) (h1:∀ a b r,c ∉ a->Q b r->Q (a++c :: b) (a :: r)):∀ (n:Nat) (s:List UInt8),s.length<=n->Q s (Lib.split s [c]):=by
 intro n
 induction n with
 | zero =>
  intro s hs;have:s=[]:=List.length_eq_zero_iff.1 (by omega);subst this;rw [Xz (by simp)];exact h0 [] (by simp)
 | succ n ih =>
  intro s hs
  by_cases hc:c∈s
  . obtain ⟨a,b,e,ha⟩:=List.eq_append_cons_of_mem hc;subst e;rw [Xr ha];exact h1 a b _ ha (ih b (by simp at hs;omega))
  . rw [Xz hc];exact h0 s hc
theorem XA (s:List UInt8) (c:UInt8):1<=(Lib.split s [c]).length/\(Lib.split s [c]).length<=s.length+1/\∀ r∈Lib.split s [c],r.length<=s.length:=by
 refine ZE c (Q:=fun s l=>1<=l.length/\l.length<=s.length+1/\∀ r∈l,r.length<=s.length) (fun a _=>⟨by simp,by simp,fun r hr=>by rw [List.mem_singleton.1 hr];exact Nat.le_refl _⟩) (fun a b r _ h=>?_) s.length s (Nat.le_refl _);obtain ⟨q1,q2,q3⟩:=h;refine ⟨by simp,by simp;omega,fun z hz=>?_⟩;rcases List.mem_cons.1 hz with rfl|hz
 . simp
 . have:=q3 z hz;simp;omega
theorem YW (s:List UInt8) {i:Int} (h1:0<=i) (h2:i<s.length):oU s i=(((List.getD s i.toNat 0).toNat:Nat):Int):=rfl
theorem Zt {w:List UInt8} {p:Nat} (h:p<w.length):0<=uC w p/\p<qN w p/\uC w p<=2147483647:=by
 have hs:p<(⟨⟨w⟩⟩:ByteArray).size:=h;have hle:=decode_le ⟨⟨w⟩⟩ p;have hsz:1<=(Utf8.decode ⟨⟨w⟩⟩ p).2:=by
  by_cases ha:((⟨⟨w⟩⟩:ByteArray)[p]'hs).toNat<128
  . rw [decode_ascii ⟨⟨w⟩⟩ p hs ha];exact Nat.le_refl _
  . exact (decode_high ⟨⟨w⟩⟩ p hs (by omega)).2
 unfold uC qN;rw [dT h];refine ⟨by omega,?_,by omega⟩;show p<p+_;omega
theorem Xl {rows:List (List UInt8)} {i:Int} (h1:0<=i) (h2:i<rows.length):List.getD rows i.toNat ([]:List UInt8)∈rows:=by
 have h3:i.toNat<rows.length:=by omega
 rw [WX,W7 h3];exact List.getElem_mem h3
def Xh (s:List UInt8):Value:=.iface 146 (aP (.prod .str .unit) ((cC (.prod .str .unit) (s,())).getD []))
theorem W9 (s:List UInt8):f113 (false,(s,())) = .pan (Xh s):=rfl
theorem Zn (s:List UInt8):kL (Xh s) = .ret 4:=rfl
def Xp (b:Bool) (x:Int):Prop:=(b=true/\x = -1)\/(0<=x/\x<=9)
theorem YJ {t:ac} (ht:TreeG t):∀ r∈WQ t,(10:UInt8) ∉ r:=by
 intro r hr;rcases List.mem_cons.1 hr with rfl|hr
 . exact Za ht.places.1 ht.places.2
 . obtain ⟨c,hc,rfl⟩:=List.mem_map.1 hr;have h:=ht.row c hc;unfold WU;intro h2;rcases List.mem_append.1 h2 with h2|h2
   . revert h2;decide
   . rcases List.mem_cons.1 h2 with h2|h2
     . cases h2
     . rcases List.mem_cons.1 h2 with h2|h2
       . rw [Xd h.par.1] at h2;exact Xx (.inr h.par) (.inr rfl) h2
       . rcases List.mem_cons.1 h2 with h2|h2
         . cases h2
         . exact YF h.fig (.inr rfl) h2
structure TreeN (t:ac):Prop where
 g:TreeG t
 ne:∀ c∈t.2.1,1<=c.2.1.length
theorem Y8 {l:List Int} {b:Bool} (hl:1<=l.length/\l.length<=220) (h:∀ x∈l,(b=true/\x = -1)\/(0<=x/\x<=9)):f114 (WS l,(b,())) = .ret l:=by
 have hfb:=bK;have hw:=Xg l;have hne:(WS l != ([]:List UInt8))=true:=by
  rw [bne_iff_ne];intro e;rw [e] at hw;simp at hw;omega
 unfold f114 CP;simp only [hne,WY];have key:=dQ (L:=fun n p=>L114_0 fuel n (WS l,(b,())) (l.take p) p) (len:=l.length) (K:=.ret l) (fun n p hp=>?_) (fun n=>?_) l.length fuel 0 (by omega) (by omega)
 . exact key
 . try dsimp only
   rw [L114_0_succ]
   try delta ae
   have hx:=h _ (jh (z:=(0:Int)) hp);have ht:(l.take p).length<=220:=by rw [List.length_take];omega
   rw [B7 0 hp];generalize hxx:l.getD p 0=x at *;have hb:(WS l).getD p 0=W6 x:=by rw [ZX hp,hxx]
   have hn:=YE (f:=x) (by rcases hx with h|h;exact .inl h.2;exact .inr h);obtain ⟨r1,r2⟩:=abh (w:=WS l) (p:=p) (by omega) (by rw [hb];omega);rw [hb] at r1;simp only [dT (show p<(WS l).length by omega),cond_true,r1,r2];rcases hx with ⟨e1,e2⟩|e
   . subst e1;subst e2;have e3:(((W6 (-1)).toNat:Nat):Int)=63:=rfl;simp only [e3,eT (show (63:Int)=63 from rfl),kX (xs:=l.take p) (ys:=[(-1:Int)]) (by simp only [List.length_cons,List.length_nil];omega),cond_true]
   . have e3:(((W6 x).toNat:Nat):Int)=48+x:=by rw [<- Xd e.1,XY e.1 e.2];omega
     have w1:IntKind.i32.wrap ((48+x) - 48)=x:=by rw [YQ (by omega) (by omega)];omega
     have w2:IntKind.i64.wrap x=x:=wr (by omega) (by omega);cases b<;>simp only [e3,eF (show 48+x≠63 by omega),dT (show 48+x >= 48 by omega),dT (show 48+x<=57 by omega),WY,w1,w2,kX (xs:=l.take p) (ys:=[x]) (by simp only [List.length_cons,List.length_nil];omega),cond_true]
 . try dsimp only
   rw [L114_0_succ]
   try delta ae
   simp only [dF (show ¬ l.length<(WS l).length by omega),List.take_length]
theorem Z5 {c:gg} (h:RowG c):Lib.split (WU c) [32]=[[99,111,112,121],[WR c.1],WS c.2.1]:=by
 unfold WU;rw [Xr (by decide),show WR c.1 :: 32 :: WS c.2.1=[WR c.1]++32 :: WS c.2.1 from rfl,Xr (fun h2=>by
  rw [Xd h.par.1] at h2;exact Xx (.inr h.par) (.inl rfl) (List.mem_singleton.1 h2)),Xz (YF h.fig (.inl rfl))]
theorem aad {t:ac} (ht:TreeG t):Lib.split (WT (WQ t)) [10]=WQ t++[WW (W0 0 0 (WQ t)),[]]:=aab 10 _ (aaD _) (WQ t) (YJ ht)
theorem Z4 {c:gg} (h:RowG c):(WU c).length<=230:=by
 have:=h.len;unfold WU;simp only [List.length_append,List.length_cons,List.length_nil,Xg];omega
theorem aaZ {t:ac} (hN:TreeN t) (tlen:(WT (WQ t)).length<=150):f90 (WT (WQ t),()) = .ret t:=by
 have hfb:=bK;have ht:=hN.g;have hc:=ht.copies;have hP:=ht.places;have es:=Xu (WT (WQ t)) 10 (by omega);rw [aad ht] at es;generalize hR:WQ t++[WW (W0 0 0 (WQ t)),[]]=R at es;have Rl:(R.length:Int)=t.2.1.length+3:=by rw [<- hR];unfold WQ;simp;omega
 have R0:List.getD R (0:Int).toNat ([]:List UInt8)=WV t.1:=by rw [<- hR];rfl
 have wl:IntKind.i64.wrap ((R.length:Int) - 2)=t.2.1.length+1:=by rw [wr (by omega) (by omega)];omega
 have hcut:cut R (1:Int) ((t.2.1.length:Int)+1)=t.2.1.map WU:=by
  rw [<- hR];unfold cut WQ;have e1:((t.2.1.length:Int)+1).toNat - (1:Int).toNat=t.2.1.length:=by omega
  rw [e1];show ((t.2.1.map WU)++[WW _,[]]).take t.2.1.length=_;rw [List.take_left' (by simp)]
 have hcok:jN (1:Int) ((t.2.1.length:Int)+1) (R.length:Int)=true:=by
  unfold jN;simp only [dT (show (0:Int)<=1 by omega),dT (show (1:Int)<=(t.2.1.length:Int)+1 by omega),dT (show (t.2.1.length:Int)+1<=R.length by omega),Bool.and_self]
 have e0:=Xu (WV t.1) 32 (by unfold WV;simp);rw [ZZ (by omega) (by omega)] at e0;have ml:(t.2.1.map WU).length=t.2.1.length:=by simp
 have g1:f114 ([WR t.1],(false,())) = .ret [t.1]:=by
  have:=Y8 (l:=[t.1]) (b:=false) (by simp) fun x hx=>.inr (by rw [List.mem_singleton.1 hx];omega)
  rwa [show WS [t.1]=[WR t.1] by rw [Xd (by omega)];rfl] at this
 have key:=dQ (L:=fun n k=>L90_0 fuel n (WT (WQ t),()) R 0 [] t.1 (t.2.1.take k) k) (len:=t.2.1.length) (K:=.ret t) (fun n k hk=>?_) (fun n=>?_) t.2.1.length fuel 0 (by omega) (by omega)
 . have d1:(((([[99,111,112,105,101,115],[WR t.1]]:List (List UInt8)).length:Nat):Int)==2)=true:=rfl;have d2:ax (1:Int) ([[99,111,112,105,101,115],[WR t.1]]:List (List UInt8)).length=true:=rfl;have d4:List.getD ([[99,111,112,105,101,115],[WR t.1]]:List (List UInt8)) (1:Int).toNat ([]:List UInt8)=[WR t.1]:=rfl;have d5:(((([t.1]:List Int).length:Nat):Int)==1)=true:=rfl;have d6:ax (0:Int) ([t.1]:List Int).length=true:=rfl;have d7:List.getD ([t.1]:List Int) (0:Int).toNat 0=t.1:=rfl;unfold f90 Df;try delta ae
   simp only [es,dT (show (R.length:Int) >= 3 by omega),WY,aY (show (0:Int)<=0 by omega) (show (0:Int)<R.length by omega),cond_true,R0,e0,d1,d2,d4,g1,d5,d6,d7,wl,hcok];exact key
 . try dsimp only
   rw [L90_0_succ]
   try delta ae
   have hr:=X0 ht hk;have hne:=hN.ne _ (jh (z:=bh) hk);have es2:t.2.1.take (k+1)=t.2.1.take k++[t.2.1.getD k bh]:=B7 bh hk;have el:(t.2.1.take k).length<=220:=by rw [List.length_take];omega
   have eg:List.getD (t.2.1.map WU) k ([]:List UInt8)=WU (t.2.1.getD k bh):=by
    rw [WX,List.getElem?_map,W7 hk,WX,W7 hk];rfl
   rw [es2];generalize t.2.1.getD k bh=c at *;have er:=Xu (WU c) 32 (by have:=Z4 hr;omega);rw [Z5 hr] at er;have c1:(((([[99,111,112,121],[WR c.1],WS c.2.1]:List (List UInt8)).length:Nat):Int)==3)=true:=rfl;have c2:ax (1:Int) ([[99,111,112,121],[WR c.1],WS c.2.1]:List (List UInt8)).length=true:=rfl;have c3:ax (2:Int) ([[99,111,112,121],[WR c.1],WS c.2.1]:List (List UInt8)).length=true:=rfl;have c4:List.getD ([[99,111,112,121],[WR c.1],WS c.2.1]:List (List UInt8)) (1:Int).toNat ([]:List UInt8)=[WR c.1]:=rfl;have c5:List.getD ([[99,111,112,121],[WR c.1],WS c.2.1]:List (List UInt8)) (2:Int).toNat ([]:List UInt8)=WS c.2.1:=rfl;have c6:f114 ([WR c.1],(false,())) = .ret [c.1]:=by
    have:=Y8 (l:=[c.1]) (b:=false) (by simp) fun x hx=>.inr (by rw [List.mem_singleton.1 hx];exact hr.par)
    rwa [show WS [c.1]=[WR c.1] by rw [Xd hr.par.1];rfl] at this
   have c7:f114 (WS c.2.1,(true,())) = .ret c.2.1:=Y8 ⟨hne,hr.len⟩ fun x hx=>by
    rcases hr.fig x hx with h|h
    . exact .inl ⟨rfl,h⟩
    . exact .inr h
   have d5:(((([c.1]:List Int).length:Nat):Int)==1)=true:=rfl;have d6:ax (0:Int) ([c.1]:List Int).length=true:=rfl;have d7:List.getD ([c.1]:List Int) (0:Int).toNat 0=c.1:=rfl;have hft:=kX (xs:=t.2.1.take k) (ys:=[((c.1,(c.2.1,())):gg)]) (by simp only [List.length_cons,List.length_nil];omega);simp only [wl,hcut,ml,dT (show (k:Int)<t.2.1.length by omega),aY (show (0:Int)<=k by omega) (show (k:Int)<t.2.1.length by omega),cond_true,Int.toNat_natCast,eg,er,c1,WY,c2,c3,c4,c5,c6,c7,d5,d6,d7,wn (show k<1000000000 by omega)];rw [hft];rfl
 . try dsimp only
   rw [L90_0_succ]
   try delta ae
   have NO:f115 ((t.1,(t.2.1,())),()) = .ret (WT (WQ t)):=X7 ht;simp only [wl,hcut,ml,dF (show ¬ ((t.2.1.length:Nat):Int)<t.2.1.length by omega),List.take_length,NO,beq_self_eq_true,WY]
theorem Y7 (w:List UInt8) (b:Bool) (hw:w.length<=400):(∃ l,f114 (w,(b,())) = .ret l/\(∀ x∈l,Xp b x)/\l.length<=w.length/\1<=l.length)\/∃ q,f114 (w,(b,())) = .pan (Xh q):=by
 have hfb:=bK;have key:∀ (m n p:Nat) (out:List Int),w.length - p<=m->m<n->out.length<=p->out.length<=w.length->(∀ x∈out,Xp b x)->(1<=out.length\/p<w.length) ->
  (∃ l,L114_0 fuel n (w,(b,())) out p = .ret l/\(∀ x∈l,Xp b x)/\l.length<=w.length/\1<=l.length)\/∃ q,L114_0 fuel n (w,(b,())) out p = .pan (Xh q):=by
  intro m
  induction m with
  | zero =>
   intro n p out h1 h2 h3 h4 h5 h6;obtain ⟨n,rfl⟩:=ks h2;rw [L114_0_succ];try delta ae
   simp only [dF (show ¬ p<w.length by omega)];exact .inl ⟨out,rfl,h5,h4,by omega⟩
  | succ m ih =>
   intro n p out h1 h2 h3 h4 h5 h6;obtain ⟨n,rfl⟩:=ks (show 0<n by omega);rw [L114_0_succ];try delta ae
   by_cases hp:p<w.length
   rotate_left
   . simp only [dF hp];exact .inl ⟨out,rfl,h5,h4,by omega⟩
   obtain ⟨r1,r2,r3⟩:=Zt hp;have push:∀ x,Xp b x->(∃ l,L114_0 fuel n (w,(b,())) (out++[x]) (qN w p) = .ret l/\(∀ x∈l,Xp b x)/\l.length<=w.length/\1<=l.length)\/∃ q,L114_0 fuel n (w,(b,())) (out++[x]) (qN w p) = .pan (Xh q):=fun x hx =>
    ih n (qN w p) (out++[x]) (by omega) (by omega) (by simp;omega) (by simp;omega) (fun y hy=>by
     rcases List.mem_append.1 hy with h|h
     . exact h5 y h
     . rw [List.mem_singleton.1 h];exact hx) (.inl (by simp))
   have ft:∀ x:Int,bQ out [x]=true:=fun x=>kX (xs:=out) (ys:=[x]) (by simp only [List.length_cons,List.length_nil];omega)
   simp only [dT hp,cond_true]
   by_cases e:b=true/\uC w p=63
   . obtain ⟨eb,e⟩:=e;subst eb;simp only [eT e,ft,cond_true];exact push (-1) (.inl ⟨rfl,rfl⟩)
   have On:b=true->uC w p≠63:=fun h1 h2=>e ⟨h1,h2⟩
   by_cases g1:uC w p >= 48
   rotate_left
   . cases b with
     | true=>simp only [eF (On rfl),dF g1,W9];exact .inr ⟨_,rfl⟩
     | false=>simp only [dF g1,W9];exact .inr ⟨_,rfl⟩
   by_cases g2:uC w p<=57
   rotate_left
   . cases b with
     | true=>simp only [eF (On rfl),dT g1,dF g2,W9];exact .inr ⟨_,rfl⟩
     | false=>simp only [dT g1,dF g2,W9];exact .inr ⟨_,rfl⟩
   have w1:IntKind.i32.wrap (uC w p - 48)=uC w p - 48:=YQ (by omega) (by omega);have w2:IntKind.i64.wrap (uC w p - 48)=uC w p - 48:=wr (by omega) (by omega);have pd:=push (uC w p - 48) (.inr ⟨by omega,by omega⟩);cases b with
   | true=>simp only [eF (On rfl),dT g1,dT g2,WY,w1,w2,ft,cond_true];exact pd
   | false=>simp only [dT g1,dT g2,WY,w1,w2,ft,cond_true];exact pd
 unfold f114 CP
 by_cases hne:(w != ([]:List UInt8))=true
 . simp only [hne,WY];have h0:0<w.length:=Nat.pos_of_ne_zero fun e=>by
    have:=List.eq_nil_of_length_eq_zero e;rw [this] at hne;exact absurd hne (by simp)
   exact key w.length fuel 0 [] (by omega) (by omega) (Nat.le_refl _) (Nat.zero_le _) (fun x hx=>by cases hx) (.inr h0)
 . have hne:(w != ([]:List UInt8))=false:=by simpa using hne
   simp only [hne,W9];exact .inr ⟨_,rfl⟩
theorem aaY (s:List UInt8) (hs:s.length<=150):(∃ x,f90 (s,()) = .ret x/\TreeN x/\s=WT (WQ x))\/∃ q,f90 (s,()) = .pan (Xh q):=by
 have hfb:=bK;obtain ⟨R1,R2,R3⟩:=XA s 10;have es:=Xu s 10 (by omega);generalize Lib.split s [10]=R at *;unfold f90 Df;try delta ae
 by_cases c1:(R.length:Int) >= 3
 rotate_left
 . simp only [es,dF c1,W9];exact .inr ⟨_,rfl⟩
 have wl:IntKind.i64.wrap ((R.length:Int) - 2)=(R.length:Int) - 2:=wr (by omega) (by omega);have hcok:jN (1:Int) ((R.length:Int) - 2) (R.length:Int)=true:=by unfold jN;simp;omega
 have hCl:((cut R (1:Int) ((R.length:Int) - 2)).length:Int)=R.length - 3:=by unfold cut;simp;omega
 have hCm:∀ r∈cut R (1:Int) ((R.length:Int) - 2),r.length<=s.length:=fun r hr=>R3 r (List.mem_of_mem_drop (List.mem_of_mem_take hr))
 have m0:=R3 _ (Xl (rows:=R) (show (0:Int)<=0 by omega) (by omega));have e0:=Xu (List.getD R (0:Int).toNat ([]:List UInt8)) 32 (by omega);obtain ⟨W1,W2,W3⟩:=XA (List.getD R (0:Int).toNat ([]:List UInt8)) 32;generalize Lib.split (List.getD R (0:Int).toNat ([]:List UInt8)) [32]=W at *;have b1:=aY (show (0:Int)<=0 by omega) (show (0:Int)<R.length by omega);simp only [es,dT c1,WY,b1,cond_true,e0]
 by_cases c2:(W.length:Int)=2
 rotate_left
 . simp only [eF c2,W9];exact .inr ⟨_,rfl⟩
 have b2:=aY (show (0:Int)<=1 by omega) (show (1:Int)<W.length by omega);have g1:=W3 _ (Xl (rows:=W) (show (0:Int)<=1 by omega) (by omega));rcases Y7 (List.getD W (1:Int).toNat ([]:List UInt8)) false (by omega) with ⟨o,eo,o1,o2,o3⟩|⟨q,eq⟩
 rotate_left
 . simp only [eT c2,WY,b2,cond_true,eq];exact .inr ⟨_,rfl⟩
 simp only [eT c2,WY,b2,cond_true,eo]
 by_cases c3:(o.length:Int)=1
 rotate_left
 . simp only [eF c3,W9];exact .inr ⟨_,rfl⟩
 have b3:=aY (show (0:Int)<=0 by omega) (show (0:Int)<o.length by omega);simp only [eT c3,WY,b3,cond_true,wl,hcok];have hpl:0<=List.getD o (0:Int).toNat 0/\List.getD o (0:Int).toNat 0<=9:=by
  have h:=o1 _ (jh (z:=(0:Int)) (show (0:Int).toNat<o.length by omega));rcases h with h|h
  . exact absurd h.1 (by simp)
  . exact h
 generalize List.getD o (0:Int).toNat 0=P at *;generalize hC:cut R (1:Int) ((R.length:Int) - 2)=C at *;have key:∀ (m f:Nat) (i:Int) (t:List gg),m<f->0<=i->i+m=C.length->(t.length:Int)=i->(∀ c∈t,RowG c/\1<=c.2.1.length) ->
  (∃ x,L90_0 fuel f (s,()) R 0 [] P t i = .ret x/\TreeN x/\s=WT (WQ x))\/∃ q,L90_0 fuel f (s,()) R 0 [] P t i = .pan (Xh q):=by
  intro m
  induction m with
  | zero =>
   intro f i t hf hi he hl ht;obtain ⟨f,rfl⟩:=ks hf;have rb:TreeG (P,(t,())):=⟨hpl,by dsimp only;omega,fun c hc=>(ht c hc).1⟩
   have NO:=X7 rb;rw [L90_0_succ];try delta ae
   cases heq:(WT (WQ (P,(t,())))==s) with
   | false =>
    simp only [wl,hC,dF (show ¬ i<(C.length:Int) by omega),NO,heq,W9];exact .inr ⟨_,rfl⟩
   | true =>
    simp only [wl,hC,dF (show ¬ i<(C.length:Int) by omega),NO,heq,WY];exact .inl ⟨_,rfl,⟨rb,fun c hc=>(ht c hc).2⟩,(beq_iff_eq.1 heq).symm⟩
  | succ m ih =>
   intro f i t hf hi he hl ht;obtain ⟨f,rfl⟩:=ks hf;have hi2:i<C.length:=by omega
   have rl:=hCm _ (Xl (rows:=C) hi hi2);have ex:=Xu (List.getD C i.toNat ([]:List UInt8)) 32 (by omega);obtain ⟨X1,X2,X3⟩:=XA (List.getD C i.toNat ([]:List UInt8)) 32;generalize Lib.split (List.getD C i.toNat ([]:List UInt8)) [32]=X at *;rw [L90_0_succ];try delta ae
   simp only [wl,hC,dT hi2,aY hi hi2,cond_true,ex]
   by_cases d2:(X.length:Int)=3
   rotate_left
   . simp only [eF d2,W9];exact .inr ⟨_,rfl⟩
   have h2:=aY (show (0:Int)<=1 by omega) (show (1:Int)<X.length by omega);have h3:=aY (show (0:Int)<=2 by omega) (show (2:Int)<X.length by omega);have k1:=X3 _ (Xl (rows:=X) (show (0:Int)<=1 by omega) (by omega));have k2:=X3 _ (Xl (rows:=X) (show (0:Int)<=2 by omega) (by omega));rcases Y7 (List.getD X (1:Int).toNat ([]:List UInt8)) false (by omega) with ⟨a,ea,a1,a2,a3⟩|⟨q,eq⟩
   rotate_left
   . simp only [eT d2,WY,h2,cond_true,eq];exact .inr ⟨_,rfl⟩
   simp only [eT d2,WY,h2,cond_true,ea]
   by_cases d3:(a.length:Int)=1
   rotate_left
   . simp only [eF d3,W9];exact .inr ⟨_,rfl⟩
   have h4:=aY (show (0:Int)<=0 by omega) (show (0:Int)<a.length by omega);rcases Y7 (List.getD X (2:Int).toNat ([]:List UInt8)) true (by omega) with ⟨b,eb,b1',b2',b3'⟩|⟨q,eq⟩
   rotate_left
   . simp only [eT d3,WY,h4,h3,cond_true,eq];exact .inr ⟨_,rfl⟩
   have hft:=kX (xs:=t) (ys:=[((List.getD a (0:Int).toNat 0,(b,())):gg)]) (by simp only [List.length_cons,List.length_nil];omega);simp only [eT d3,WY,h4,h3,cond_true,eb,wr (show -9223372036854775808<=i+1 by omega) (show i+1<=9223372036854775807 by omega)];rw [hft];refine ih f (i+1) _ (by omega) (by omega) (by omega) (by simp;omega) fun c hc=>?_
   rcases List.mem_append.1 hc with h|h
   . exact ht c h
   . rw [List.mem_singleton.1 h];refine ⟨⟨?_,by dsimp only;omega,fun x hx=>?_⟩,b3'⟩
     . have h:=a1 _ (jh (z:=(0:Int)) (show (0:Int).toNat<a.length by omega));rcases h with h|h
       . exact absurd h.1 (by simp)
       . exact h
     . rcases b1' x hx with h|h
       . exact .inl h.2
       . exact .inr h
 exact key C.length fuel 0 [] (by omega) (by omega) (by omega) rfl (fun c hc=>by cases hc)
theorem ZH {x:Int} (h1:0<=x) (h2:x<=255):IntKind.u8.wrap x=x:=by
 unfold IntKind.wrap;simp only [IntKind.bits,IntKind.signed];simp;omega
def Xs (p:Nat):Int:=if p=0 then 1 else 10
theorem X_ (s:List UInt8) (c:UInt8) (hs:s.length<=100000):Xq (s,(((c.toNat:Nat):Int),())) = .ret (Lib.split s [c]):=by
 have hfb:=bK;have key:∀ (m f:Nat) (fr i:Int) (out:List (List UInt8)),m<f->0<=fr->fr<=i->i+m=s.length->(out.length:Int)<=i->c ∉ (s.drop fr.toNat).take (i.toNat - fr.toNat) ->
  L80n_0 fuel f (s,(((c.toNat:Nat):Int),())) out fr i = .ret (out++Lib.split (s.drop fr.toNat) [c]):=by
  intro m
  induction m with
  | zero =>
   intro f fr i out hf hfr hi he ho hc;obtain ⟨f,rfl⟩:=ks hf;have e1:(s.drop fr.toNat).take (i.toNat - fr.toNat)=s.drop fr.toNat:=List.take_of_length_le (by simp;omega);rw [e1] at hc;have e2:cut s fr (s.length:Int)=s.drop fr.toNat:=by
    unfold cut;exact List.take_of_length_le (by simp)
   have e3:jN fr (s.length:Int) (s.length:Int)=true:=by unfold jN;simp;omega
   rw [L80n_0_succ];try delta ae
   simp only [dF (show ¬ i<(s.length:Int) by omega),e3,e2,kX (show out.length+[s.drop fr.toNat].length<1000000 by simp only [List.length_cons,List.length_nil];omega),cond_true];rw [Xz hc]
  | succ m ih =>
   intro f fr i out hf hfr hi he ho hc;obtain ⟨f,rfl⟩:=ks hf;have hi2:i<s.length:=by omega
   have hi3:i.toNat<s.length:=by omega
   have eb:=YW s (show 0<=i by omega) hi2;have eg:List.getD s i.toNat 0=s[i.toNat]:=by rw [WX,W7 hi3];rfl
   have w:IntKind.i64.wrap (i+1)=i+1:=wr (by omega) (by omega);rw [L80n_0_succ];try delta ae
   by_cases hb:s[i.toNat]=c
   . have e0:(oU s i==((c.toNat:Nat):Int))=true:=eT (by rw [eb,eg,hb]);have e2:cut s fr i=(s.drop fr.toNat).take (i.toNat - fr.toNat):=rfl;have e3:jN fr i (s.length:Int)=true:=by unfold jN;simp;omega
     have e4:s.drop fr.toNat=(s.drop fr.toNat).take (i.toNat - fr.toNat)++c :: s.drop (i+1).toNat:=by
      have a1:s.drop fr.toNat=(s.drop fr.toNat).take (i.toNat - fr.toNat)++(s.drop fr.toNat).drop (i.toNat - fr.toNat):=(List.take_append_drop _ _).symm;have a2:(s.drop fr.toNat).drop (i.toNat - fr.toNat)=s.drop i.toNat:=by rw [List.drop_drop];congr 1;omega
      have a3:(i+1).toNat=i.toNat+1:=by omega
      rw [a2,List.drop_eq_getElem_cons hi3,hb,<- a3] at a1;exact a1
     simp only [dT hi2,aY (show 0<=i by omega) hi2,cond_true,e0,e3,e2,kX (show out.length+[(s.drop fr.toNat).take (i.toNat - fr.toNat)].length<1000000 by simp only [List.length_cons,List.length_nil];omega),w];rw [ih f (i+1) (i+1) _ (by omega) (by omega) (by omega) (by omega) (by simp only [List.length_append,List.length_cons,List.length_nil];omega) (by simp)]
     conv=>rhs;rw [e4,Xr hc]
     simp
   . have e0:(oU s i==((c.toNat:Nat):Int))=false:=eF (by
      rw [eb,eg];intro h;exact hb (UInt8.toNat_inj.1 (by omega)))
     simp only [dT hi2,aY (show 0<=i by omega) hi2,cond_true,e0,w];refine ih f fr (i+1) out (by omega) hfr (by omega) (by omega) (by omega) ?_;have a3:(i+1).toNat - fr.toNat=(i.toNat - fr.toNat)+1:=by omega
     have a4:i.toNat - fr.toNat<(s.drop fr.toNat).length:=by simp;omega
     rw [a3,List.take_succ_eq_append_getElem a4];intro hm;rcases List.mem_append.1 hm with hm|hm
     . exact hc hm
     . have:=List.mem_singleton.1 hm;rw [List.getElem_drop] at this;have e5:fr.toNat+(i.toNat - fr.toNat)=i.toNat:=by omega
       simp only [e5] at this;exact hb this.symm
 have:=key s.length fuel 0 0 [] (by omega) (by omega) (by omega) (by omega) (by simp) (by simp);unfold Xq YU
 simpa using this
theorem aas (w:List UInt8) (hw:w.length<=1) (n0:Int):∀ (m f:Nat) (n:Int) (i:Int),m<f->0<=i->i+m=w.length->0<=n->n<Xs i.toNat ->
 (∃ n' b,L112n_1 fuel f (w,(1,())) n i = .ret (n',(b,()))/\(b=true->0<=n'/\n'<=9)):=by
 intro m
 induction m with
 | zero =>
  intro f n i hf hi he hn hb;obtain ⟨f,rfl⟩:=ks hf;have hn9:n<=9:=by unfold Xs at hb;(repeat' split at hb)<;>omega
  have w1:IntKind.i64.wrap (1 * n)=n:=by rw [wr (by omega) (by omega)];omega
  rw [L112n_1_succ];try delta ae
  simp only [dF (show ¬ i<(w.length:Int) by omega),w1,XF n (by omega) (by omega)];exact ⟨n,_,rfl,fun _=>⟨hn,hn9⟩⟩
 | succ m ih =>
  intro f n i hf hi he hn hb;obtain ⟨f,rfl⟩:=ks hf;have hi2:i<w.length:=by omega
  have hn3:n<=0:=by unfold Xs at hb;(repeat' split at hb)<;>omega
  rw [L112n_1_succ];try delta ae
  by_cases c1:oU w i<48
  . simp only [dT hi2,aY hi hi2,cond_true,dT c1];exact ⟨_,_,rfl,fun h=>by cases h⟩
  by_cases c2:oU w i > 57
  . simp only [dT hi2,aY hi hi2,cond_true,dF c1,dT c2];exact ⟨_,_,rfl,fun h=>by cases h⟩
  have w8:IntKind.u8.wrap (oU w i - 48)=oU w i - 48:=ZH (by omega) (by omega);simp only [dT hi2,aY hi hi2,cond_true,dF c1,dF c2,w8,wr (show -9223372036854775808<=oU w i - 48 by omega) (show oU w i - 48<=9223372036854775807 by omega),wr (show -9223372036854775808<=10 * n by omega) (show 10 * n<=9223372036854775807 by omega),wr (show -9223372036854775808<=10 * n+(oU w i - 48) by omega) (show 10 * n+(oU w i - 48)<=9223372036854775807 by omega),wr (show -9223372036854775808<=i+1 by omega) (show i+1<=9223372036854775807 by omega)];refine ih f _ (i+1) (by omega) (by omega) (by omega) (by omega) ?_;have e:(i+1).toNat=i.toNat+1:=by omega
  rw [e];unfold Xs at hb ⊢
  (repeat' split at hb)<;>(repeat' split)<;>omega
theorem aat (w:List UInt8) (v:List UInt8) (hv:cut w (1:Int) (w.length:Int)=v) (hw:v.length<=1):∀ (m f:Nat) (n:Int) (i:Int),m<f->0<=i->i+m=v.length->0<=n->n<Xs i.toNat ->
 (∃ n' b,L112n_0 fuel f (w,(1,())) n i = .ret (n',(b,()))/\(b=true -> -9<=n'/\n'<=0)):=by
 intro m
 induction m with
 | zero =>
  intro f n i hf hi he hn hb;obtain ⟨f,rfl⟩:=ks hf;have hn9:n<=9:=by unfold Xs at hb;(repeat' split at hb)<;>omega
  have w1:IntKind.i64.wrap (-1 * n) = -n:=by rw [wr (by omega) (by omega)];omega
  rw [L112n_0_succ];try delta ae
  simp only [hv,dF (show ¬ i<(v.length:Int) by omega),w1,XF (-n) (by omega) (by omega)];exact ⟨-n,_,rfl,fun _=>⟨by omega,by omega⟩⟩
 | succ m ih =>
  intro f n i hf hi he hn hb;obtain ⟨f,rfl⟩:=ks hf;have hi2:i<v.length:=by omega
  have hn3:n<=0:=by unfold Xs at hb;(repeat' split at hb)<;>omega
  rw [L112n_0_succ];try delta ae
  by_cases c1:oU v i<48
  . simp only [hv,dT hi2,aY hi hi2,cond_true,dT c1];exact ⟨_,_,rfl,fun h=>by cases h⟩
  by_cases c2:oU v i > 57
  . simp only [hv,dT hi2,aY hi hi2,cond_true,dF c1,dT c2];exact ⟨_,_,rfl,fun h=>by cases h⟩
  have w8:IntKind.u8.wrap (oU v i - 48)=oU v i - 48:=ZH (by omega) (by omega);simp only [hv,dT hi2,aY hi hi2,cond_true,dF c1,dF c2,w8,wr (show -9223372036854775808<=oU v i - 48 by omega) (show oU v i - 48<=9223372036854775807 by omega),wr (show -9223372036854775808<=10 * n by omega) (show 10 * n<=9223372036854775807 by omega),wr (show -9223372036854775808<=10 * n+(oU v i - 48) by omega) (show 10 * n+(oU v i - 48)<=9223372036854775807 by omega),wr (show -9223372036854775808<=i+1 by omega) (show i+1<=9223372036854775807 by omega)];refine ih f _ (i+1) (by omega) (by omega) (by omega) (by omega) ?_;have e:(i+1).toNat=i.toNat+1:=by omega
  rw [e];unfold Xs at hb ⊢
  (repeat' split at hb)<;>(repeat' split)<;>omega
theorem aar (b:UInt8) (r:List UInt8):cut (b :: r) (1:Int) ((b :: r).length:Int)=r:=by
 unfold cut;simp
theorem abd (w:List UInt8):∃ n b,XD (w,(1,())) = .ret (n,(b,()))/\(b=true -> -9<=n/\n<=9):=by
 have hfb:=bK;have nn:∃ n b,(match (decide ((w.length:Int)<1)) with
       | true=>(.ret ((0:Int),(false,())):Out (Int×(Bool×Unit)))
       | false=>match (decide ((w.length:Int) > 1)) with
        | true=>.ret ((0:Int),(false,()))
        | false=>L112n_1 fuel fuel (w,(1,())) 0 0) = .ret (n,(b,()))/\(b=true -> -9<=n/\n<=9):=by
  by_cases c1:(w.length:Int)<1
  . rw [dT c1];exact ⟨_,_,rfl,fun h=>by cases h⟩
  by_cases c2:(w.length:Int) > 1
  . rw [dF c1,dT c2];exact ⟨_,_,rfl,fun h=>by cases h⟩
  rw [dF c1,dF c2];obtain ⟨n,b,e,h⟩:=aas w (by omega) 0 w.length fuel 0 0 (by omega) (by omega) (by omega) (by omega) (by unfold Xs;simp);exact ⟨n,b,e,fun hb=>by have:=h hb;omega⟩
 unfold XD Yq;try delta ae
 cases w with
 | nil =>
  exact ⟨0,false,rfl,fun h=>by cases h⟩
 | cons a r =>
  have c0:((a :: r).length:Int) > 0:=by rw [List.length_cons];omega
  have i0:ax (0:Int) (a :: r).length=true:=aY (by omega) (by rw [List.length_cons];omega);have k0:jN (1:Int) ((a :: r).length:Int) ((a :: r).length:Int)=true:=by unfold jN;simp;omega
  have hc:=aar a r;cases h45:(oU (a :: r) (0:Int)==45) with
  | true =>
   simp only [dT c0,i0,cond_true,h45,k0,hc]
   by_cases c1:(r.length:Int)<1
   . simp only [dT c1];exact ⟨_,_,rfl,fun h=>by cases h⟩
   by_cases c2:(r.length:Int) > 1
   . simp only [dF c1,dT c2];exact ⟨_,_,rfl,fun h=>by cases h⟩
   simp only [dF c1,dF c2];obtain ⟨n,b,e,h⟩:=aat (a :: r) r hc (by omega) r.length fuel 0 0 (by omega) (by omega) (by omega) (by omega) (by unfold Xs;simp);exact ⟨n,b,e,fun hb=>by have:=h hb;omega⟩
  | false =>
   simp only [dT c0,i0,cond_true,h45];obtain ⟨n,b,e,h⟩:=nn;refine ⟨n,b,?_,h⟩;rw [<- e]<;>cases decide (((a :: r).length:Int)<1)<;>cases decide (((a :: r).length:Int) > 1)<;>rfl
theorem Z2 {n:Int} (h0:0<=n) (h9:n<=9):XD ([WR n],(1,())) = .ret (n,(true,())):=by
 have hfb:=bK;have eb:oU [WR n] 0=48+n:=by
  have h:oU [WR n] 0=(((WR n).toNat:Nat):Int):=rfl;rw [h,XY h0 h9];omega
 have w8:IntKind.u8.wrap (48+n - 48)=n:=by rw [ZH (by omega) (by omega)];omega
 have w1:IntKind.i64.wrap n=n:=wr (by omega) (by omega);have wz:IntKind.i64.wrap (10 * 0:Int)=0:=rfl;have wa:IntKind.i64.wrap (0+n)=n:=by rw [wr (by omega) (by omega)];omega
 have wm:IntKind.i64.wrap (1 * n)=n:=by rw [wr (by omega) (by omega)];omega
 have key:∀ N j:Nat,L112n_1 N (j+1+1) ([WR n],(1,())) 0 0 = .ret (n,(true,())):=by
  intro N j;rw [L112n_1_succ];try delta ae
  simp only [show (([WR n]:List UInt8).length:Int)=1 from rfl,dT (show (0:Int)<1 by decide),show ax 0 ([WR n]:List UInt8).length=true from rfl,cond_true,eb,dF (show ¬ 48+n<48 by omega),dF (show ¬ 48+n > 57 by omega),w8,w1,wz,wa,show IntKind.i64.wrap (0+1)=1 from rfl];rw [L112n_1_succ];try delta ae
  simp only [show (([WR n]:List UInt8).length:Int)=1 from rfl,dF (show ¬ (1:Int)<1 by decide),wm,XF n (by omega) (by omega),Xo h0 h9,beq_self_eq_true]
 obtain ⟨j,hj⟩:∃ j,fuel=j+1+1:=⟨fuel - 2,by omega⟩
 have:=key fuel j;rw [<- hj] at this;unfold XD Yq;try delta ae
 simp only [show (([WR n]:List UInt8).length:Int)=1 from rfl,dT (show (1:Int) > 0 by decide),show ax 0 ([WR n]:List UInt8).length=true from rfl,cond_true,eb,eF (show 48+n≠45 by omega),dF (show ¬ (1:Int)<1 by decide),dF (show ¬ (1:Int) > 1 by decide)];exact this
theorem Zo {w:List UInt8} {n:Int} {b:Bool} (h:XD (w,(1,())) = .ret (n,(b,()))):XZ ([w],(1,())) = .ret (match b with|true=>([n],(true,()))|false=>([],(false,()))):=by
 have hfb:=bK;have key:∀ N j:Nat,L81n_0 N (j+1+1) ([w],(1,())) [] 0 = .ret (match b with|true=>([n],(true,()))|false=>([],(false,()))):=by
  intro N j;rw [L81n_0_succ];try delta ae
  cases b with
  | false=>simp only [show (([w]:List (List UInt8)).length:Int)=1 from rfl,dT (show (0:Int)<1 by decide),show ax 0 ([w]:List (List UInt8)).length=true from rfl,show List.getD [w] (0:Int).toNat []=w from rfl,cond_true,h,Bool.not_false]
  | true =>
   simp only [show (([w]:List (List UInt8)).length:Int)=1 from rfl,dT (show (0:Int)<1 by decide),show ax 0 ([w]:List (List UInt8)).length=true from rfl,show List.getD [w] (0:Int).toNat []=w from rfl,cond_true,h,Bool.not_true,show bQ ([]:List Int) [n]=true from rfl,show IntKind.i64.wrap (0+1)=1 from rfl];rw [L81n_0_succ];try delta ae
   simp only [show (([w]:List (List UInt8)).length:Int)=1 from rfl,dF (show ¬ (1:Int)<1 by decide),List.nil_append]
 obtain ⟨j,hj⟩:∃ j,fuel=j+1+1:=⟨fuel - 2,by omega⟩
 have:=key fuel j;rw [<- hj] at this;unfold XZ YV;exact this
theorem ZU {t:ac} (ht:TreeG t):f54 (t,()) = .ret (WT (WQ t)):=by
 have hfb:=bK;have hc:=ht.copies;have hP:=ht.places;have rs:=XQ ht;have OM:Fl (WQ t,(257,())) = .ret (WT (WQ t)):=abi (WQ t) rs (WQ t).length fuel 0 0 [] (by have:=rs.1;omega) (by omega) (by omega) rfl;have eh:[99,111,112,105,101,115]++[32]++[WR t.1]=WV t.1:=rfl;unfold f54 C_;simp only [ZV (w:=[99,111,112,105,101,115]) (by simp) (show 0<=t.1 by omega) (show t.1<=9 by omega),eh];have key:=dQ (L:=fun n k=>L54_0 fuel n (t,()) (WV t.1 :: (t.2.1.take k).map WU) k) (len:=t.2.1.length) (K:=.ret (WT (WQ t))) (fun n k hk=>?_) (fun n=>?_) t.2.1.length fuel 0 (by omega) (by omega)
 . exact key
 . try dsimp only
   rw [L54_0_succ]
   try delta ae
   have hr:=X0 ht hk;have el:(WV t.1 :: (t.2.1.take k).map WU).length<=221:=by rw [List.length_cons,List.length_map,List.length_take];omega
   have es:WV t.1 :: (t.2.1.take (k+1)).map WU=(WV t.1 :: (t.2.1.take k).map WU)++[WU (t.2.1.getD k bh)]:=by rw [B7 bh hk,List.map_append];rfl
   rw [es];simp only [dT (show (k:Int)<t.2.1.length by omega),aY (show (0:Int)<=k by omega) (show (k:Int)<t.2.1.length by omega),cond_true,Int.toNat_natCast,wn (show k<1000000000 by omega),ZV (w:=[99,111,112,121]) (by simp) hr.par.1 hr.par.2,dT (show ([99,111,112,121]++[32]++[WR (t.2.1.getD k bh).1]:List UInt8).length+([32]:List UInt8).length<1000000 by simp)];generalize hcc:t.2.1.getD k bh=c at *;generalize WV t.1 :: (t.2.1.take k).map WU=rows at *;have hlen:=hr.len;have inner:=dQ (L:=fun n1 p=>L54_1 fuel n n1 (t,()) k rows (([99,111,112,121]++[32]++[WR c.1]++[32])++WS (c.2.1.take p)) p) (len:=c.2.1.length) (K:=L54_0 fuel n (t,()) (rows++[WU c]) ((k+1:Nat):Int)) (fun n1 p hp=>?_) (fun n1=>?_) c.2.1.length fuel 0 (by omega) (by omega)
   . exact inner
   . try dsimp only
     rw [L54_1_succ]
     try delta ae
     have hf:=hr.fig _ (jh (z:=(0:Int)) hp);have es2:WS (c.2.1.take (p+1))=WS (c.2.1.take p)++[W6 (c.2.1.getD p 0)]:=by unfold WS;rw [B7 0 hp,List.map_append];rfl
     have el2:(([99,111,112,121]++[32]++[WR c.1]++[32])++WS (c.2.1.take p):List UInt8).length<=230:=by simp only [List.length_append,List.length_cons,List.length_nil,Xg,List.length_take];omega
     rw [es2,<- List.append_assoc];simp only [Int.toNat_natCast,hcc,aY (show (0:Int)<=k by omega) (show (k:Int)<t.2.1.length by omega),cond_true,dT (show (p:Int)<c.2.1.length by omega),aY (show (0:Int)<=p by omega) (show (p:Int)<c.2.1.length by omega),wn (show p<1000000000 by omega)];generalize ([99,111,112,121]++[32]++[WR c.1]++[32])++WS (c.2.1.take p)=s at *;rcases hf with e|e
     . simp only [dT (show c.2.1.getD p 0<0 by omega),dT (show s.length+([63]:List UInt8).length<1000000 by simp only [List.length_cons,List.length_nil];omega),cond_true];rw [e];rfl
     . simp only [dF (show ¬ c.2.1.getD p 0<0 by omega),XF (c.2.1.getD p 0) (by omega) (by omega),Xo e.1 e.2,dT (show s.length+[WR (c.2.1.getD p 0)].length<1000000 by simp only [List.length_cons,List.length_nil];omega),cond_true];rw [Xd e.1]
   . try dsimp only
     rw [L54_1_succ]
     try delta ae
     simp only [Int.toNat_natCast,hcc,aY (show (0:Int)<=k by omega) (show (k:Int)<t.2.1.length by omega),cond_true,dF (show ¬ ((c.2.1.length:Nat):Int)<c.2.1.length by omega),List.take_length,wn (show k<1000000000 by omega)];have er:([99,111,112,121]++[32]++[WR c.1]++[32])++WS c.2.1=WU c:=rfl;rw [er,kX (xs:=rows) (ys:=[WU c]) (by simp only [List.length_cons,List.length_nil];omega)];rfl
 . try dsimp only
   rw [L54_0_succ]
   try delta ae
   have er:WV t.1 :: t.2.1.map WU=WQ t:=rfl;simp only [dF (show ¬ ((t.2.1.length:Nat):Int)<t.2.1.length by omega),List.take_length,er,OM]
open Go.RowKit (Below)
def Zs:Array Oper:=bp 14 (av Tryz.f42)
theorem Zh:Zs.toList.map a_=[(some 68,.move (.tmp 8),none),(some 69,.indexAddr 25 (.tmp 68) (.const (.int .i64 0)),none),(some 70,.load 3 (.tmp 69),none),(some 71,.build 69 #[(0,.tmp 70)],none),(some 10,.alloc 69,none),(none,.store 69 (.tmp 10) (.tmp 71),none)]:=by kernel_rfl
def Y_ {H:Hole} (g:mt) (s:H.σ) (st:St):Bool×Outs H:=match g st with|some st'=>(true,.some [(s,st')])|none=>(false,.some [])
theorem aa2 {P:Program} [Inv P] {H:Hole} {ops:Array Oper} {i c:Nat} {g:mt} (h:xj P ops i c g):bw P H ops i c (Y_ g):=by
 intro F M0 w0 n hI hpl Q rest s st a w hc h1 hK;unfold Y_ at h1 hK;cases hg:g st with
 | none=>rw [hg] at h1;cases h1
 | some st' =>
  rw [hg] at hK;obtain ⟨N0,hpn,hcl,hback⟩:=hc.lift;exact h _ N0 w n (hc.inv hI) (fun j v hj=>hpl j v (hpn j v hj)) Q rest st a w st' hcl hg fun a' w' hc'=>hK (s,st') (List.mem_singleton.2 rfl) a' w' (hback _ _ _ hc')
def Y' (st:St):Option St:=match get st 70 with
 | .d (.int .i64) n=>(match au (get st 71) || au (get st 10) || !(st.length==120) with
  | true=>none
  | false=>some ((st.set 71 .und).set 10 (.box [.d (.int .i64) n,.own (.int .i64) [] true])))
 | _=>none
section
variable {a : Act} {w : World} {o : Oper}
theorem aaH (ho:o.op = .build 69 #[(0,.tmp 70)]) {n:Int} (h:tm a 70 = .int .i64 n):(execOp a.eval o).run Tryz.prog w = .ok (.value (.agg #[.int .i64 n,.slice none 0 0])) w:=by
 have e2:a.eval (.tmp 70) = .int .i64 n:=h;simp only [execOp,ho,List.map_toArray,List.map_cons,List.map_nil,e2];simp [go_sem]
theorem aaF (ho:o.op = .alloc 69):(execOp a.eval o).run Tryz.prog w = .ok (.value (.pointer (some ⟨w.heap.size,0,none⟩))) (w.alloc (.cells #[.int .i64 0,.slice none 0 0] 69)):=by
 simp only [execOp,ho];simp [go_sem]
theorem aaK (ho:o.op = .store 69 (.tmp 10) (.tmp 71)) {n:Int} (h1:tm a 10 = .pointer (some ⟨w.heap.size,0,none⟩)) (h2:tm a 71 = .agg #[.int .i64 n,.slice none 0 0]) :
 (execOp a.eval o).run Tryz.prog (w.alloc (.cells #[.int .i64 0,.slice none 0 0] 69)) = .ok .skip (w.alloc (.cells #[.int .i64 n,.slice none 0 0] 69)):=by
 have e1:a.eval (.tmp 10) = .pointer (some ⟨w.heap.size,0,none⟩):=h1;have e2:a.eval (.tmp 71) = .agg #[.int .i64 n,.slice none 0 0]:=h2;simp only [execOp,ho,e1,e2];simp [go_sem]
end
theorem h42:xj Tryz.prog Zs 3 2 Y':=by
 intro F M0 w0 m hI hpl Q rest st a w st' hc hg hK;unfold Y' at hg;split at hg;rotate_left
 . cases hg
 rename_i n h70;split at hg
 . cases hg
 rename_i hnb;simp only [Bool.or_eq_false_iff] at hnb;obtain ⟨⟨n71,n10⟩,hlen⟩:=hnb;have hlen:st.length=120:=by simpa using hlen
 cases hg;obtain ⟨hfr,M,hg⟩:=hc;have t70:tm a 70 = .int .i64 n:=by
  have s:=hg.slot 70;rw [h70] at s;obtain ⟨cs,e,q⟩:=s;have q':cs=[.int .i64 n]:=q;subst q';exact e
 have hsz:a.tmps.size=120:=hg.size.trans hlen;have g71:=z_ hg (d:=71) n71 (.agg #[.int .i64 n,.slice none 0 0]);have hbx:au (get (st.set 71 .und) 10)=false:=by rw [eU (by omega)];exact n10
 obtain ⟨o3,i3,d3,p3,q3⟩:=aB Zh (i:=3) rfl;obtain ⟨o4,i4,d4,p4,q4⟩:=aB Zh (i:=4) rfl;obtain ⟨o5,i5,d5,p5,q5⟩:=aB Zh (i:=5) rfl;obtain ⟨M2,hgb⟩:=g71.put_box (o:=o4) (E:=69) (fun d hd=>by rw [d4] at hd;cases hd;exact hbx) (cs:=[.d (.int .i64) n,.own (.int .i64) [] true]) (cells := #[.int .i64 n,.slice none 0 0])
  (fun k t xs hh h=>by match k,h with|0,h=>cases h|1,h=>cases h|_+2,h=>cases h)
  (fun k t xs h=>by match k,h with|0,h=>cases h|1,h=>cases h|_+2,h=>cases h)
  (fun k t xs hh v h1 h2=>by match k,h1,h2 with|0,h1,_=>cases h1|1,_,h2=>cases h2;rfl|_+2,h1,_=>cases h1) rfl
  (fun k c u h1 h2=>by
   match k,h1,h2 with
   | 0,h1,h2=>cases h1;cases h2;exact rfl
   | 1,h1,h2=>cases h1;cases h2;exact ⟨af.list_nil _,.inl ⟨rfl,rfl⟩⟩
   | _+2,h1,_=>cases h1)
 rw [d4] at hgb;show wpOpsIn (aA none) m Tryz.prog Zs Q (3 :: 4 :: 5 :: rest) a w;rw [wpOpsIn_cons];refine aV i3 (aC q3) (fun c h=>by rw [p3] at h;cases h) (aaH p3 t70) ?_;rw [d3,wpOpsIn_cons];refine aV i4 (aC q4) (fun c h=>by rw [p4] at h;cases h) (aaF p4) ?_;rw [d4,wpOpsIn_cons];refine iG i5 (aC q5) (fun c h=>by rw [p5] at h;cases h) (aaK p5 (n:=n) (by rw [ay (by simp only [aG];omega)]) (by rw [aj (by omega),ay (by omega)])) ?_;rw [d5];exact hK _ _ ⟨hfr.alloc hg.room _,M2,hgb⟩
def Yj:List Spec:=[Zz,ZA,IA,V0]
def XG:List (Nat×List Nat):=[(4,[0,2,4,5,6]),(16,[0,2,4,5,6,7,10,11])]
def YO (s:Unit):List Spec:=[Zz,ZA,IA,V0]
def Zq:Array Oper:=bp 14 (av Tryz.f42)
def YR:Nat->Option (Nat×(Unit->St->Bool×Outs H0)):=fun i=>match i with|3=>some (2,Y_ (H:=H0) Y')|_=>none
theorem aae:∀ i y,YR i=some y->bw Tryz.prog H0 Zq i y.1 y.2:=by
 intro i y h;unfold YR at h;split at h
 . cases h;exact aa2 h42
 . cases h
def Zr:Array Oper:=bp 17 (av Tryz.f42)
def ZI:Nat->Option (Nat×(Unit->St->Bool×Outs H0)):=fun _=>none
theorem aaf:∀ i y,ZI i=some y->bw Tryz.prog H0 Zr i y.1 y.2:=fun _ _ h=>by cases h
def Ys:List (List Nat×HdH H0):=[([1,1,1,0,1,0,0,1,0,0,1,1,1,1,1,0],⟨fun {ρ} k s st=>cf Tryz.prog H0 (fun s=>ah (YO s)) XG YR 14 Zq k s st⟩),
 ([1,1,1,0,1,0,0,1,0,0,1,1,1,1,1,1,0,1,0,0,1,1],⟨fun {ρ} k s st=>cf Tryz.prog H0 (fun s=>ah (YO s)) XG ZI 17 Zr k s st⟩)]
theorem aag (h:∀ s,∀ sp∈YO s,cT Tryz.prog H0 s sp):bG Tryz.prog H0 (av Tryz.f42) (Ys):=(bJ (c' := .region 14 Zq false) (by kernel_rfl) (cr (fun s g sp hs=>h s sp (List.mem_filter.1 hs).1) XG aae) (bJ (c' := .region 17 Zr false) (by kernel_rfl) (cr (fun s g sp hs=>h s sp (List.mem_filter.1 hs).1) XG aaf) dU))
def L42n_1 (N n0 n1:Nat) (x:gU) (i_8:Int) (t2_13:Int) (t2_14:(List (Int×aE))) (t_15:Int) (t_16:(List (Int×aE))) (rows_17:(List (List UInt8))) (w_18:(List (List UInt8))) (c_19:Int) (c_20:(List Int)) (p_21:Int):Out (Unit×((Int×((List (Int×((List Int)×Unit)))×Unit))×(Bool×Unit))) :=
 ev Tryz.prog H0 (ah Yj) XG N (Ys) Tryz.f42 true false (.prod (.prod (.int .i64) (.prod (.list (.prod (.int .i64) (.prod (.list (.int .i64)) .unit))) .unit)) (.prod .bool .unit)) [1,1,1,0,1,0,n0,1,0,0,1,1,1,1,1,1,0,1,0] n1 (()) [.d .str x.1,.und,.box [.d (.int .i64) t2_13,.own mf t2_14 false],.und,.box [.d (.int .i64) t_15,.own mf t_16 false],.own .str rows_17 false,.d (.int .i64) i_8,.own .str w_18 false,.und,.und,.box [.d (.int .i64) c_19,.own (.int .i64) c_20 false],.d (.int .i64) p_21,.und,.und,.und,.und,.und,.und,.und,.und,.und,.und,.und,.und,.und,.und,.und,.und,.und,.und,.und,.und,.und,.und,.und,.und,.und,.und,.und,.und,.und,.und,.und,.und,.und,.und,.und,.und,.und,.und,.und,.und,.und,.und,.und,.und,.und,.und,.und,.und,.und,.und,.und,.und,.und,.und,.und,.und,.und,.und,.und,.und,.und,.und,.und,.und,.und,.und,.und,.und,.und,.und,.und,.und,.und,.und,.und,.und,.und,.und,.und,.und,.und,.und,.und,.und,.und,.und,.und,.und,.und,.und,.und,.und,.und,.und,.und,.und,.und,.und,.und,.und,.und,.und,.und,.und,.und,.und,.und,.und]
def L42n_0 (N n0:Nat) (x:gU) (t2_3:Int) (t2_4:(List (Int×aE))) (t_5:Int) (t_6:(List (Int×aE))) (rows_7:(List (List UInt8))) (i_8:Int):Out (Unit×((Int×((List (Int×((List Int)×Unit)))×Unit))×(Bool×Unit))) :=
 ev Tryz.prog H0 (ah Yj) XG N (Ys) Tryz.f42 true false (.prod (.prod (.int .i64) (.prod (.list (.prod (.int .i64) (.prod (.list (.int .i64)) .unit))) .unit)) (.prod .bool .unit)) [1,1,1,0,1,0] n0 (()) [.d .str x.1,.und,.box [.d (.int .i64) t2_3,.own mf t2_4 false],.und,.box [.d (.int .i64) t_5,.own mf t_6 false],.own .str rows_7 false,.d (.int .i64) i_8,.und,.und,.und,.und,.und,.und,.und,.und,.und,.und,.und,.und,.und,.und,.und,.und,.und,.und,.und,.und,.und,.und,.und,.und,.und,.und,.und,.und,.und,.und,.und,.und,.und,.und,.und,.und,.und,.und,.und,.und,.und,.und,.und,.und,.und,.und,.und,.und,.und,.und,.und,.und,.und,.und,.und,.und,.und,.und,.und,.und,.und,.und,.und,.und,.und,.und,.und,.und,.und,.und,.und,.und,.und,.und,.und,.und,.und,.und,.und,.und,.und,.und,.und,.und,.und,.und,.und,.und,.und,.und,.und,.und,.und,.und,.und,.und,.und,.und,.und,.und,.und,.und,.und,.und,.und,.und,.und,.und,.und,.und,.und,.und,.und]
theorem L42n_1_succ (N n0 n1:Nat) (x:gU) (i_8:Int) (t2_13:Int) (t2_14:(List (Int×aE))) (t_15:Int) (t_16:(List (Int×aE))) (rows_17:(List (List UInt8))) (w_18:(List (List UInt8))) (c_19:Int) (c_20:(List Int)) (p_21:Int):L42n_1 N n0 (n1+1) x i_8 t2_13 t2_14 t_15 t_16 rows_17 w_18 c_19 c_20 p_21 =
 (
 bif (ax (2:Int) w_18.length) then
  match (decide (p_21<(ae (List.getD w_18 (2:Int).toNat ([]:List UInt8))))) with
  | true =>
   bif (ax (2:Int) w_18.length) then
    bif (ax p_21 (List.getD w_18 (2:Int).toNat ([]:List UInt8)).length) then
     match ((oU (List.getD w_18 (2:Int).toNat ([]:List UInt8)) p_21) != (63:Int)) with
     | true =>
      bif (ax (2:Int) w_18.length) then
       bif (ax p_21 (List.getD w_18 (2:Int).toNat ([]:List UInt8)).length) then
        match f46 ((IntKind.i64.wrap ((IntKind.i64.wrap (oU (List.getD w_18 (2:Int).toNat ([]:List UInt8)) p_21)) - (48:Int))),()) with
        | .ret r_22 =>
         match (!r_22) with
         | true =>
          .ret ((()),(((0:Int),(([]:List (Int×aE)),())),(false,())))
         | false =>
          bif (bQ c_20 ([(IntKind.i64.wrap ((IntKind.i64.wrap (oU (List.getD w_18 (2:Int).toNat ([]:List UInt8)) p_21)) - (48:Int)))]:List Int)) then
           L42n_1 N n0 n1 x i_8 t2_13 t2_14 t_15 t_16 rows_17 w_18 c_19 (c_20++([(IntKind.i64.wrap ((IntKind.i64.wrap (oU (List.getD w_18 (2:Int).toNat ([]:List UInt8)) p_21)) - (48:Int)))]:List Int)) (IntKind.i64.wrap (p_21+(1:Int)))
          else .fail
        | .pan p_23 =>
         .pan p_23
        | .fail=>.fail
       else .fail
      else .fail
     | false =>
      bif (bQ c_20 ([(-1:Int)]:List Int)) then
       L42n_1 N n0 n1 x i_8 t2_13 t2_14 t_15 t_16 rows_17 w_18 c_19 (c_20++([(-1:Int)]:List Int)) (IntKind.i64.wrap (p_21+(1:Int)))
      else .fail
    else .fail
   else .fail
  | false =>
   bif (bQ t_16 ([(c_19,(c_20,()))]:List (Int×aE))) then
    L42n_0 N n0 x t2_13 t2_14 t_15 (t_16++([(c_19,(c_20,()))]:List (Int×aE))) rows_17 (IntKind.i64.wrap (i_8+(1:Int)))
   else .fail
 else .fail:Out (Unit×((Int×((List (Int×((List Int)×Unit)))×Unit))×(Bool×Unit)))):=by
 kernel_rfl
theorem L42n_0_succ (N n0:Nat) (x:gU) (t2_3:Int) (t2_4:(List (Int×aE))) (t_5:Int) (t_6:(List (Int×aE))) (rows_7:(List (List UInt8))) (i_8:Int):L42n_0 N  (n0+1) x t2_3 t2_4 t_5 t_6 rows_7 i_8 =
 (
 match (decide (i_8<(IntKind.i64.wrap ((ae rows_7) - (2:Int))))) with
 | true =>
  bif (ax i_8 rows_7.length) then
   match Xq ((List.getD rows_7 i_8.toNat ([]:List UInt8)),((32:Int),())) with
   | .ret r_9 =>
    match (decide ((ae r_9)<(2:Int))) with
    | true =>
     .ret ((()),(((0:Int),(([]:List (Int×aE)),())),(false,())))
    | false =>
     match (decide (i_8 > (0:Int))) with
     | true =>
      match ((ae r_9) != (3:Int)) with
      | true =>
       .ret ((()),(((0:Int),(([]:List (Int×aE)),())),(false,())))
      | false =>
       bif (ax (2:Int) r_9.length) then
        match ((ae (List.getD r_9 (2:Int).toNat ([]:List UInt8)))==(0:Int)) with
        | true =>
         .ret ((()),(((0:Int),(([]:List (Int×aE)),())),(false,())))
        | false =>
         bif (jN (1:Int) (2:Int) (ae r_9)) then
          match XZ ((cut r_9 (1:Int) (2:Int)),((1:Int),())) with
          | .ret r_11 =>
           match (!r_11.2.1) with
           | true =>
            .ret ((()),(((0:Int),(([]:List (Int×aE)),())),(false,())))
           | false =>
            bif (ax (0:Int) r_11.1.length) then
             match (decide ((List.getD r_11.1 (0:Int).toNat (0:Int))<(0:Int))) with
             | true =>
              .ret ((()),(((0:Int),(([]:List (Int×aE)),())),(false,())))
             | false =>
              match (i_8==(0:Int)) with
              | true =>
               bif (ax (0:Int) r_11.1.length) then
                L42n_0 N n0 x t2_3 t2_4 (List.getD r_11.1 (0:Int).toNat (0:Int)) t_6 rows_7 (IntKind.i64.wrap (i_8+(1:Int)))
               else .fail
              | false =>
               bif (ax (0:Int) r_11.1.length) then
                L42n_1 N n0 N x i_8 t2_3 t2_4 t_5 t_6 rows_7 r_9 (List.getD r_11.1 (0:Int).toNat (0:Int)) ([]:List Int) (0:Int)
               else .fail
            else .fail
          | .pan p_12 =>
           .pan p_12
          | .fail=>.fail
         else .fail
       else .fail
     | false =>
      bif (jN (1:Int) (2:Int) (ae r_9)) then
       match XZ ((cut r_9 (1:Int) (2:Int)),((1:Int),())) with
       | .ret r_24 =>
        match (!r_24.2.1) with
        | true =>
         .ret ((()),(((0:Int),(([]:List (Int×aE)),())),(false,())))
        | false =>
         bif (ax (0:Int) r_24.1.length) then
          match (decide ((List.getD r_24.1 (0:Int).toNat (0:Int))<(0:Int))) with
          | true =>
           .ret ((()),(((0:Int),(([]:List (Int×aE)),())),(false,())))
          | false =>
           match (i_8==(0:Int)) with
           | true =>
            bif (ax (0:Int) r_24.1.length) then
             L42n_0 N n0 x t2_3 t2_4 (List.getD r_24.1 (0:Int).toNat (0:Int)) t_6 rows_7 (IntKind.i64.wrap (i_8+(1:Int)))
            else .fail
           | false =>
            bif (ax (0:Int) r_24.1.length) then
             L42n_1 N n0 N x i_8 t2_3 t2_4 t_5 t_6 rows_7 r_9 (List.getD r_24.1 (0:Int).toNat (0:Int)) ([]:List Int) (0:Int)
            else .fail
         else .fail
       | .pan p_25 =>
        .pan p_25
       | .fail=>.fail
      else .fail
   | .pan p_10 =>
    .pan p_10
   | .fail=>.fail
  else .fail
 | false =>
  match (decide ((ae rows_7)<(3:Int))) with
  | true =>
   .ret ((()),(((0:Int),(([]:List (Int×aE)),())),(false,())))
  | false =>
   match f54 ((t_5,(t_6,())),()) with
   | .ret r_35 =>
    match (r_35 != x.1) with
    | true =>
     .ret ((()),(((0:Int),(([]:List (Int×aE)),())),(false,())))
    | false =>
     .ret ((()),((t_5,(t_6,())),(true,())))
   | .pan p_36 =>
    .pan p_36
   | .fail=>.fail:Out (Unit×((Int×((List (Int×((List Int)×Unit)))×Unit))×(Bool×Unit)))):=by
 kernel_rfl
def Yr (N:Nat) (x:gU):Out (Unit×((Int×((List (Int×((List Int)×Unit)))×Unit))×(Bool×Unit))) :=
 match Xq (x.1,((10:Int),())) with
 | .ret r_1 =>
  L42n_0 N N x (0:Int) ([]:List (Int×aE)) (0:Int) ([]:List (Int×aE)) r_1 (0:Int)
 | .pan p_2 =>
  .pan p_2
 | .fail=>.fail
theorem aax (N:Nat) (x:gU):cD Tryz.prog H0 (ah Yj) XG N (Ys) Tryz.f42 true false (.prod .str .unit) (.prod (.prod (.int .i64) (.prod (.list (.prod (.int .i64) (.prod (.list (.int .i64)) .unit))) .unit)) (.prod .bool .unit)) (()) x=Yr N x:=by
 kernel_rfl
def Xn (x:gU):Out ((Int×((List (Int×((List Int)×Unit)))×Unit))×(Bool×Unit)):=dY (Yr fuel x)
def abm:Spec:=⟨42,.call,(.prod .str .unit),(.prod (.prod (.int .i64) (.prod (.list (.prod (.int .i64) (.prod (.list (.int .i64)) .unit))) .unit)) (.prod .bool .unit)),true,false,Xn⟩
theorem aam:am Tryz.prog abm:=Er (l:=Yj) (fun sp hs=>(by simp only [Yj,List.mem_cons,List.not_mem_nil,or_false] at hs;rcases hs with rfl|rfl|rfl|rfl<;>first|exact ZK|exact ZL|exact X4|exact MB)) Tryz.func42 rfl (aag fun s sp hs=>.inl (by simp only [YO,List.mem_cons,List.not_mem_nil,or_false] at hs;rcases hs with rfl|rfl|rfl|rfl<;>first|exact ZK|exact ZL|exact X4|exact MB)) XG fuel (aax fuel)
def Zm:Out (Unit×(ac×(Bool×Unit))):=.ret ((),((0,([],())),(false,())))
theorem aaq {X:List (List UInt8)} (h:2<=X.length):cut X (1:Int) (2:Int)=[List.getD X (1:Int).toNat ([]:List UInt8)]/\jN (1:Int) (2:Int) (X.length:Int)=true:=by
 match X,h with
 | a :: b :: r,_=>exact ⟨rfl,by unfold jN;simp;omega⟩
theorem aa0 {Z:Out (Unit×(ac×(Bool×Unit)))->Prop} (s:List UInt8) (R W:List (List UInt8)) (i t c1:Int) (t6:List gg) (n0:Nat) (hW:W.length=3) (w2:List UInt8) (hw:List.getD W (2:Int).toNat ([]:List UInt8)=w2) (hw2:w2.length<=215) (hne:1<=w2.length) (h6:t6.length<=300)
 (z0:Z Zm) (z1:∀ l:List Int,(∀ x∈l,Xi x)->1<=l.length->l.length<=215->Z (L42n_0 fuel n0 (s,()) 0 [] t (t6++[(c1,(l,()))]) R (IntKind.i64.wrap (i+1)))) :
 ∀ (m f:Nat) (p:Int) (c:List Int),m<f->0<=p->p+m=w2.length->(c.length:Int)=p->(∀ x∈c,Xi x)->Z (L42n_1 fuel n0 f (s,()) i 0 [] t t6 R W c1 c p):=by
 have j2:=aY (show (0:Int)<=2 by omega) (show (2:Int)<W.length by omega);intro m
 induction m with
 | zero =>
  intro f p c hf hp he hl hc;obtain ⟨f,rfl⟩:=ks hf;rw [L42n_1_succ];try delta ae
  have hft:=kX (xs:=t6) (ys:=[((c1,(c,())):gg)]) (by simp only [List.length_cons,List.length_nil];omega);simp only [j2,cond_true,hw,dF (show ¬ p<(w2.length:Int) by omega)];rw [hft];exact z1 c hc (by omega) (by omega)
 | succ m ih =>
  intro f p c hf hp he hl hc;obtain ⟨f,rfl⟩:=ks hf;have hp2:p<w2.length:=by omega
  have jp:=aY hp hp2;have eb:=YW w2 hp hp2;have hb:=UInt8.toNat_lt (List.getD w2 p.toNat 0);have wi:IntKind.i64.wrap (p+1)=p+1:=wr (by omega) (by omega);have ft:∀ x:Int,bQ c [x]=true:=fun x=>kX (xs:=c) (ys:=[x]) (by simp only [List.length_cons,List.length_nil];omega)
  have push:∀ x,Xi x->Z (L42n_1 fuel n0 f (s,()) i 0 [] t t6 R W c1 (c++[x]) (p+1)):=fun x hx =>
   ih f (p+1) (c++[x]) (by omega) (by omega) (by omega) (by simp;omega) fun y hy=>by
    rcases List.mem_append.1 hy with h|h
    . exact hc y h
    . rw [List.mem_singleton.1 h];exact hx
  have w1:IntKind.i64.wrap (oU w2 p)=oU w2 p:=wr (by omega) (by omega);have w2':IntKind.i64.wrap (oU w2 p - 48)=oU w2 p - 48:=wr (by omega) (by omega);rw [L42n_1_succ];try delta ae
  by_cases On:oU w2 p=63
  . simp only [j2,cond_true,hw,dT hp2,jp,nF On,ft,wi];exact push (-1) (.inl rfl)
  by_cases hd:0<=oU w2 p - 48/\oU w2 p - 48<=9
  . simp only [j2,cond_true,hw,dT hp2,jp,nT On,w1,w2',i46,dT hd,Bool.not_true,ft,wi];exact push _ (.inr hd)
  . simp only [j2,cond_true,hw,dT hp2,jp,nT On,w1,w2',i46,dF hd,Bool.not_false];exact z0
theorem aaV (s:List UInt8) (hs:s.length<=215):(∃ x,Xn (s,()) = .ret (x,(true,()))/\TreeN x/\s=WT (WQ x))\/Xn (s,()) = .ret ((0,([],())),(false,())):=by
 have hfb:=bK;obtain ⟨R1,R2,R3⟩:=XA s 10;have es:Xq (s,(10,())) = .ret (Lib.split s [10]):=X_ s 10 (by omega);generalize Lib.split s [10]=R at *;have wl:IntKind.i64.wrap ((R.length:Int) - 2)=(R.length:Int) - 2:=wr (by omega) (by omega);obtain ⟨Z,hZ⟩:∃ Z:Out (Unit×(ac×(Bool×Unit)))->Prop,Z=fun o=>(∃ x,o = .ret ((),(x,(true,())))/\TreeN x/\s=WT (WQ x))\/o=Zm:=⟨_,rfl⟩
 have z0:Z Zm:=by rw [hZ];exact .inr rfl
 have key:∀ (m f:Nat) (i t:Int) (t6:List gg),m<f->0<=i->(R.length:Int) - 2 - i<=m->(t6.length:Int)<=i->i<=216->(0<=t/\t<=9)->(∀ c∈t6,RowG c/\1<=c.2.1.length)->Z (L42n_0 fuel f (s,()) 0 [] t t6 R i):=by
  have fin:∀ (f:Nat) (i t:Int) (t6:List gg),¬ i<(R.length:Int) - 2->t6.length<=216->(0<=t/\t<=9)->(∀ c∈t6,RowG c/\1<=c.2.1.length)->Z (L42n_0 fuel (f+1) (s,()) 0 [] t t6 R i):=by
   intro f i t t6 hi hl ht hr;rw [L42n_0_succ];try delta ae
   by_cases c:(R.length:Int)<3
   . simp only [wl,dF hi,dT c];exact z0
   . have rb:TreeG (t,(t6,())):=⟨ht,by dsimp only;omega,fun c hc=>(hr c hc).1⟩
     have Og:=ZU rb;cases heq:(WT (WQ (t,(t6,()))) != s) with
     | true =>
      simp only [wl,dF hi,dF c,Og,heq];exact z0
     | false =>
      simp only [wl,dF hi,dF c,Og,heq];rw [hZ];exact .inl ⟨_,rfl,⟨rb,fun c hc=>(hr c hc).2⟩,(bne_eq_false_iff_eq.1 heq).symm⟩
  intro m
  induction m with
  | zero =>
   intro f i t t6 hf hi he hl hi9 ht hr;obtain ⟨f,rfl⟩:=ks hf;exact fin f i t t6 (by omega) (by omega) ht hr
  | succ m ih =>
   intro f i t t6 hf hi he hl hi9 ht hr;obtain ⟨f,rfl⟩:=ks hf
   by_cases hi2:i<(R.length:Int) - 2
   rotate_left
   . exact fin f i t t6 hi2 (by omega) ht hr
   have hi3:i<R.length:=by omega
   have rl:=R3 _ (Xl (rows:=R) hi hi3);have ex:Xq (List.getD R i.toNat ([]:List UInt8),(32,())) = .ret (Lib.split (List.getD R i.toNat ([]:List UInt8)) [32]):=X_ _ 32 (by omega);obtain ⟨X1,X2,X3⟩:=XA (List.getD R i.toNat ([]:List UInt8)) 32;generalize Lib.split (List.getD R i.toNat ([]:List UInt8)) [32]=X at *;have wi:IntKind.i64.wrap (i+1)=i+1:=wr (by omega) (by omega);have jR:=aY hi hi3;rw [L42n_0_succ];try delta ae
   by_cases c2:(X.length:Int)<2
   . simp only [wl,dT hi2,jR,cond_true,ex,dT c2];exact z0
   obtain ⟨k1,k2⟩:=aaq (X:=X) (by omega);obtain ⟨n,b,en,hn⟩:=abd (List.getD X (1:Int).toNat ([]:List UInt8));have e81:=Zo en
   by_cases c0:i > 0
   . by_cases c3:(X.length:Int)=3
     rotate_left
     . simp only [wl,dT hi2,jR,cond_true,ex,dF c2,dT c0,nT c3];exact z0
     have j2:=aY (show (0:Int)<=2 by omega) (show (2:Int)<X.length by omega);have x2:=X3 _ (Xl (rows:=X) (show (0:Int)<=2 by omega) (by omega));generalize hw:List.getD X (2:Int).toNat ([]:List UInt8)=w2 at *
     by_cases c4:(w2.length:Int)=0
     . simp only [wl,dT hi2,jR,cond_true,ex,dF c2,dT c0,nF c3,j2,hw,eT c4];exact z0
     cases b with
     | false =>
      simp only [wl,dT hi2,jR,cond_true,ex,dF c2,dT c0,nF c3,j2,hw,eF c4,k1,k2,e81,Bool.not_false];exact z0
     | true =>
      have hn:=hn rfl
      by_cases c5:n<0
      . simp only [wl,dT hi2,jR,cond_true,ex,dF c2,dT c0,nF c3,j2,hw,eF c4,k1,k2,e81,Bool.not_true,show ax (0:Int) ([n]:List Int).length=true from rfl,show List.getD [n] (0:Int).toNat 0=n from rfl,dT c5];exact z0
      simp only [wl,dT hi2,jR,cond_true,ex,dF c2,dT c0,nF c3,j2,hw,eF c4,k1,k2,e81,Bool.not_true,show ax (0:Int) ([n]:List Int).length=true from rfl,show List.getD [n] (0:Int).toNat 0=n from rfl,dF c5,eF (show i≠0 by omega)];refine aa0 s R X i t n t6 f (by omega) w2 hw (by omega) (by omega) (by omega) z0 (fun l l1 l2 l3=>?_) w2.length fuel 0 [] (by omega) (by omega) (by omega) rfl (fun x hx=>by cases hx);rw [wi];refine ih f (i+1) t _ (by omega) (by omega) (by omega) (by simp;omega) (by omega) ht fun c hc=>?_
      rcases List.mem_append.1 hc with h|h
      . exact hr c h
      . rw [List.mem_singleton.1 h];exact ⟨⟨⟨by omega,by omega⟩,by dsimp only;omega,l1⟩,l2⟩
   . have ci:i=0:=by omega
     cases b with
     | false =>
      simp only [wl,dT hi2,jR,cond_true,ex,dF c2,dF c0,k1,k2,e81,Bool.not_false];exact z0
     | true =>
      have hn:=hn rfl
      by_cases c5:n<0
      . simp only [wl,dT hi2,jR,cond_true,ex,dF c2,dF c0,k1,k2,e81,Bool.not_true,show ax (0:Int) ([n]:List Int).length=true from rfl,show List.getD [n] (0:Int).toNat 0=n from rfl,dT c5];exact z0
      simp only [wl,dT hi2,jR,cond_true,ex,dF c2,dF c0,k1,k2,e81,Bool.not_true,show ax (0:Int) ([n]:List Int).length=true from rfl,show List.getD [n] (0:Int).toNat 0=n from rfl,dF c5,eT ci,wi];exact ih f (i+1) n t6 (by omega) (by omega) (by omega) (by omega) (by omega) ⟨by omega,by omega⟩ hr
 have h:=key R.length fuel 0 0 [] (by omega) (by omega) (by omega) (by simp) (by omega) (by omega) (fun c hc=>by cases hc);have e:Xn (s,())=dY (L42n_0 fuel fuel (s,()) 0 [] 0 [] R 0):=by
  unfold Xn Yr;simp only [es]
 rw [e];rw [hZ] at h;rcases h with ⟨x,hx,h2⟩|hx
 . rw [hx];exact .inl ⟨x,rfl,h2⟩
 . rw [hx];exact .inr rfl
theorem aaW (t:ac) (hN:TreeN t) (tlen:(WT (WQ t)).length<=150):Xn (WT (WQ t),()) = .ret (t,(true,())):=by
 have hfb:=bK;have ht:=hN.g;have hc:=ht.copies;have hP:=ht.places;have es:Xq (WT (WQ t),(10,())) = .ret (Lib.split (WT (WQ t)) [10]):=X_ _ 10 (by omega);rw [aad ht] at es;generalize hR:WQ t++[WW (W0 0 0 (WQ t)),[]]=R at es;have Rl:(R.length:Int)=t.2.1.length+3:=by rw [<- hR];unfold WQ;simp;omega
 have R0:List.getD R (0:Int).toNat ([]:List UInt8)=WV t.1:=by rw [<- hR];rfl
 have wl:IntKind.i64.wrap ((R.length:Int) - 2)=t.2.1.length+1:=by rw [wr (by omega) (by omega)];omega
 have e0:Xq (WV t.1,(32,())) = .ret (Lib.split (WV t.1) [32]):=X_ _ 32 (by unfold WV;simp);rw [ZZ (by omega) (by omega)] at e0;have n0:=Zo (Z2 (n:=t.1) (by omega) (by omega));have key:=dQ (L:=fun n k=>L42n_0 fuel n (WT (WQ t),()) 0 [] t.1 (t.2.1.take k) R ((k+1:Nat):Int)) (len:=t.2.1.length) (K:=.ret ((),(t,(true,())))) (fun n k hk=>?_) (fun n=>?_) t.2.1.length
 . obtain ⟨f,hf⟩:=ks (show 0<fuel by omega);have k2:=key f 0 (by omega) (by omega);have step:L42n_0 fuel (f+1) (WT (WQ t),()) 0 [] 0 [] R 0=L42n_0 fuel f (WT (WQ t),()) 0 [] t.1 [] R 1:=by
    rw [L42n_0_succ];try delta ae
    simp only [wl,dT (show (0:Int)<(t.2.1.length:Int)+1 by omega),aY (show (0:Int)<=0 by omega) (show (0:Int)<R.length by omega),cond_true,R0,e0,
     show decide ((([[99,111,112,105,101,115],[WR t.1]]:List (List UInt8)).length:Int)<2)=false from rfl,dF (show ¬ (0:Int) > 0 by omega),show jN (1:Int) (2:Int) (([[99,111,112,105,101,115],[WR t.1]]:List (List UInt8)).length:Int)=true from rfl,
     show cut ([[99,111,112,105,101,115],[WR t.1]]:List (List UInt8)) (1:Int) (2:Int)=[[WR t.1]] from rfl,n0,Bool.not_true,show ax (0:Int) ([t.1]:List Int).length=true from rfl,show List.getD [t.1] (0:Int).toNat 0=t.1 from rfl,dF (show ¬ t.1<0 by omega),eT (rfl:(0:Int)=0),show IntKind.i64.wrap (0+1)=1 from rfl]
   have e:Xn (WT (WQ t),())=dY (L42n_0 fuel fuel (WT (WQ t),()) 0 [] 0 [] R 0):=by
    unfold Xn Yr;simp only [es]
   have e2:L42n_0 fuel fuel (WT (WQ t),()) 0 [] 0 [] R 0=L42n_0 fuel (f+1) (WT (WQ t),()) 0 [] 0 [] R 0:=congrArg (fun z=>L42n_0 fuel z (WT (WQ t),()) 0 [] 0 [] R 0) hf;rw [e,e2,step];exact congrArg dY k2
 . try dsimp only
   have hr:=X0 ht hk;have hne:=hN.ne _ (jh (z:=bh) hk);have es2:t.2.1.take (k+1)=t.2.1.take k++[t.2.1.getD k bh]:=B7 bh hk;have el:(t.2.1.take k).length<=220:=by rw [List.length_take];omega
   have eg:List.getD R (((k+1:Nat):Int)).toNat ([]:List UInt8)=WU (t.2.1.getD k bh):=by
    have a1:(((k+1:Nat):Int)).toNat=k+1:=by omega
    rw [a1,<- hR];unfold WQ;show List.getD ((t.2.1.map WU)++_) k _=_;rw [WX,List.getElem?_append_left (by rw [List.length_map];exact hk),List.getElem?_map,W7 hk,WX,W7 hk];rfl
   rw [es2];generalize t.2.1.getD k bh=c at *;generalize t.2.1.take k=t6 at *;have hlen:=hr.len;have er:Xq (WU c,(32,())) = .ret (Lib.split (WU c) [32]):=X_ _ 32 (by have:=Z4 hr;omega);rw [Z5 hr] at er;have nc:=Zo (Z2 hr.par.1 hr.par.2);have wi:IntKind.i64.wrap (((k+1:Nat):Int)+1)=((k+1+1:Nat):Int):=wn (by omega);have fl:=Xg c.2.1;have key2:=dQ (L:=fun m p=>L42n_1 fuel n m (WT (WQ t),()) ((k+1:Nat):Int) 0 [] t.1 t6 R [[99,111,112,121],[WR c.1],WS c.2.1] c.1 (c.2.1.take p) (p:Int)) (len:=c.2.1.length) (K:=L42n_0 fuel n (WT (WQ t),()) 0 [] t.1 (t6++[c]) R ((k+1+1:Nat):Int)) (fun m p hp=>?_) (fun m=>?_) c.2.1.length fuel 0 (by omega) (by omega)
   . rw [L42n_0_succ];try delta ae
     simp only [wl,dT (show ((k+1:Nat):Int)<(t.2.1.length:Int)+1 by omega),aY (show (0:Int)<=((k+1:Nat):Int) by omega) (show ((k+1:Nat):Int)<R.length by omega),cond_true,eg,er,
      show decide ((([[99,111,112,121],[WR c.1],WS c.2.1]:List (List UInt8)).length:Int)<2)=false from rfl,dT (show ((k+1:Nat):Int) > 0 by omega),show ((([[99,111,112,121],[WR c.1],WS c.2.1]:List (List UInt8)).length:Int) != 3)=false from rfl,show ax (2:Int) ([[99,111,112,121],[WR c.1],WS c.2.1]:List (List UInt8)).length=true from rfl,
      show List.getD ([[99,111,112,121],[WR c.1],WS c.2.1]:List (List UInt8)) (2:Int).toNat []=WS c.2.1 from rfl,eF (show ((WS c.2.1).length:Int)≠0 by omega),show jN (1:Int) (2:Int) (([[99,111,112,121],[WR c.1],WS c.2.1]:List (List UInt8)).length:Int)=true from rfl,
      show cut ([[99,111,112,121],[WR c.1],WS c.2.1]:List (List UInt8)) (1:Int) (2:Int)=[[WR c.1]] from rfl,nc,Bool.not_true,show ax (0:Int) ([c.1]:List Int).length=true from rfl,show List.getD [c.1] (0:Int).toNat 0=c.1 from rfl,dF (show ¬ c.1<0 by have:=hr.par;omega),eF (show ((k+1:Nat):Int)≠0 by omega)]
     exact key2
   . try dsimp only
     rw [L42n_1_succ];try delta ae
     have hf:=hr.fig _ (jh (z:=(0:Int)) hp);have ht2:(c.2.1.take p).length<=220:=by rw [List.length_take];omega
     rw [B7 0 hp];have ebp:oU (WS c.2.1) (p:Int)=(((W6 (c.2.1.getD p 0)).toNat:Nat):Int):=by
      rw [YW _ (by omega) (by omega),Int.toNat_natCast,ZX hp]
     generalize c.2.1.getD p 0=x at *;generalize c.2.1.take p=l at *;have ft:∀ z:Int,bQ l [z]=true:=fun z=>kX (xs:=l) (ys:=[z]) (by simp only [List.length_cons,List.length_nil];omega)
     simp only [show ax (2:Int) ([[99,111,112,121],[WR c.1],WS c.2.1]:List (List UInt8)).length=true from rfl,show List.getD ([[99,111,112,121],[WR c.1],WS c.2.1]:List (List UInt8)) (2:Int).toNat []=WS c.2.1 from rfl,cond_true,dT (show (p:Int)<((WS c.2.1).length:Int) by omega),aY (show (0:Int)<=p by omega) (show (p:Int)<(WS c.2.1).length by omega),ebp,wn (show p<1000000000 by omega)];rcases hf with e|e
     . subst e;simp only [nF (show (((W6 (-1)).toNat:Nat):Int)=63 from rfl),ft,cond_true]
     . have e3:(((W6 x).toNat:Nat):Int)=48+x:=by rw [<- Xd e.1,XY e.1 e.2];omega
       have w1:IntKind.i64.wrap (48+x)=48+x:=wr (by omega) (by omega);have w2:IntKind.i64.wrap (48+x - 48)=x:=by rw [wr (by omega) (by omega)];omega
       simp only [e3,nT (show 48+x≠63 by omega),w1,w2,i46,dT e,Bool.not_true,ft,cond_true]
   . try dsimp only
     rw [L42n_1_succ];try delta ae
     have hft:=kX (xs:=t6) (ys:=[((c.1,(c.2.1,())):gg)]) (by simp only [List.length_cons,List.length_nil];omega);simp only [show ax (2:Int) ([[99,111,112,121],[WR c.1],WS c.2.1]:List (List UInt8)).length=true from rfl,show List.getD ([[99,111,112,121],[WR c.1],WS c.2.1]:List (List UInt8)) (2:Int).toNat []=WS c.2.1 from rfl,cond_true,dF (show ¬ ((c.2.1.length:Nat):Int)<((WS c.2.1).length:Int) by omega),List.take_length,wi];rw [hft];rfl
 . try dsimp only
   rw [L42n_0_succ];try delta ae
   have Og:f54 ((t.1,(t.2.1,())),()) = .ret (WT (WQ t)):=ZU ht;have hne:(WT (WQ t) != WT (WQ t))=false:=by simp
   simp only [wl,dF (show ¬ ((t.2.1.length+1:Nat):Int)<(t.2.1.length:Int)+1 by omega),dF (show ¬ (R.length:Int)<3 by omega),List.take_length,Og,hne]
@[irreducible] def YD:gU->Out ((Int×((List (Int×((List Int)×Unit)))×Unit))×(Bool×Unit)):=dG Xn
theorem ZT:YD=Xn:=by unfold YD;exact dR Xn
def Zy:Spec:=⟨42,.call,(.prod .str .unit),(.prod (.prod (.int .i64) (.prod (.list (.prod (.int .i64) (.prod (.list (.int .i64)) .unit))) .unit)) (.prod .bool .unit)),true,false,YD⟩
theorem aan:am Tryz.prog Zy:=by
 unfold Zy
 rw [ZT]
 exact aam
def Z_:List Spec:=[Iw,Be,Zy,XS,Zu,XR]
def Z0:List (Nat×List Nat):=[]
def Yo (N:Nat) (x:gU):Out Bool:=match (decide ((ae x.1) > 215)) with|true=>(match tu () with | .ret r=>.ret r | .pan p=>.pan p | .fail=>.fail)|false=>match pL (x.1,()) with | .ret r_3=>(match YD (x.1,()) with | .ret r_5=>(match (decide ((ae x.1) > 115)) with|true=>(match (r_3.2.1==3) with|true=>(match Xm (r_3.1,((0,(([]:List (Int×aE)),())),())) with | .ret r_7=>(match r_7 with|true=>(match tu () with | .ret r=>.ret r | .pan p=>.pan p | .fail=>.fail)|false=>.ret false) | .pan p=>.pan p | .fail=>.fail)|false=>.ret false)|false=>match (!r_5.2.1) with|true=>(match (r_3.2.1==4) with|true=>(match Xm (r_3.1,((0,(([]:List (Int×aE)),())),())) with | .ret r_11=>(match r_11 with|true=>(match tu () with | .ret r=>.ret r | .pan p=>.pan p | .fail=>.fail)|false=>.ret false) | .pan p=>.pan p | .fail=>.fail)|false=>.ret false)|false=>match YA (r_5.1,()) with | .ret r_15=>(match (!r_15) with|true=>(match (r_3.2.1==2) with|true=>(match Xm (r_3.1,((0,(([]:List (Int×aE)),())),())) with | .ret r_17=>(match r_17 with|true=>(match tu () with | .ret r=>.ret r | .pan p=>.pan p | .fail=>.fail)|false=>.ret false) | .pan p=>.pan p | .fail=>.fail)|false=>.ret false)|false=>match Xw (r_3.1,()) with | .ret r_21=>(match (r_3.2.1==0) with|true=>(match Xm (r_3.1,(r_5.1,())) with | .ret r_23=>(match r_23 with|true=>(match (r_21.2.1==0) with|true=>(match (r_21.1==x.1) with|true=>(match tu () with | .ret r=>.ret r | .pan p=>.pan p | .fail=>.fail)|false=>.ret false)|false=>.ret false)|false=>.ret false) | .pan p=>.pan p | .fail=>.fail)|false=>.ret false) | .pan p=>.pan p | .fail=>.fail) | .pan p=>.pan p | .fail=>.fail) | .pan p=>.pan p | .fail=>.fail) | .pan p=>.pan p | .fail=>.fail
theorem e10 (N:Nat) (x:gU):aW Tryz.prog (ah Z_) Z0 N Tryz.f10 false false (.prod .str .unit) .bool x=Yo N x:=by kernel_rfl
def f10 (x:gU):Out Bool:=Yo fuel x
def abj:Spec:=⟨10,.call,(.prod .str .unit),.bool,false,false,f10⟩
theorem c10:am Tryz.prog abj:=bi (l:=Z_) (arg:=(.prod .str .unit)) (res:=.bool) (multi:=false) (own:=false) (F:=f10) mixed (all_cons WC (all_cons My (all_cons aan (all_cons Yu (all_cons aak (all_cons Yt aO)))))) Tryz.func10 rfl Z0 fun x _=>⟨fuel,e10 fuel x⟩
theorem YC:Xb ((0,([],())),((0,([],())),())) = .ret true:=by
 have hfb:=bK;obtain ⟨j,hj⟩:∃ j,fuel=j+1:=⟨fuel - 1,by omega⟩
 unfold Xb XB
 try delta ae
 have key:∀ N j:Nat,L41n_0 N (j+1) ((0,([],())),((0,([],())),())) 0 = .ret true:=by
  intro N j;rw [L41n_0_succ];try delta ae
  simp only [dF (show ¬ (0:Int)<(([]:List gg).length:Int) by simp)]
 have:=key fuel j;rw [<- hj] at this;exact this
theorem aa5 (s:List UInt8):f10 (s,()) = .ret true:=by
 show Yo fuel (s,())=_;unfold Yo;try delta ae
 simp only [Fd,ZT,X9,ZR,X8]
 by_cases h1:(s.length:Int) > 215
 . simp only [dT h1,WL]
 have ref:=aaV s (by omega)
 by_cases h2:(s.length:Int) > 115
 . have Oe:f52 (s,()) = .ret ((0,([],())),(3,())):=by
    unfold f52 r7;try delta ae
    simp only [dT h2]
   rcases ref with ⟨x,e,_⟩|e
   . simp only [dF h1,Oe,e,dT h2,eT (rfl:(3:Int)=3),YC,WL]
   . simp only [dF h1,Oe,e,dT h2,eT (rfl:(3:Int)=3),YC,WL]
 rcases aaY s (by omega) with ⟨x,OH,hN,hs⟩|⟨q,OH⟩
 . have e42:Xn (s,()) = .ret (x,(true,())):=by rw [hs];exact aaW x hN (by rw [<- hs];omega)
   by_cases ht:TreeOK x
   . have Oe:f52 (s,()) = .ret (x,(0,())):=by
      unfold f52 r7;try delta ae
      simp only [dF h2,OH,ht.t55,Bool.not_true]
     have es:(WT (WQ x)==s)=true:=by rw [<- hs];exact beq_self_eq_true s
     simp only [dF h1,Oe,e42,dF h2,Bool.not_true,ht.t17,aaR ht,eT (rfl:(0:Int)=0),aaU ht,es,WL]
   . have Oe:f52 (s,()) = .ret ((0,([],())),(2,())):=by
      unfold f52 r7;try delta ae
      simp only [dF h2,OH,abb ht,Bool.not_false]
     simp only [dF h1,Oe,e42,dF h2,Bool.not_true,aba ht,Bool.not_false,eT (rfl:(2:Int)=2),YC,WL]
 . have Oe:f52 (s,()) = .ret ((0,([],())),(4,())):=by
    unfold f52 r7;try delta ae
    simp only [dF h2,OH,Zn,nT (show (4:Int)≠0 by decide)]
   rcases ref with ⟨x,_,hN,hs⟩|e
   . have:=aaZ hN (by rw [<- hs];omega);rw [<- hs,OH] at this;cases this
   . simp only [dF h1,Oe,e,dF h2,Bool.not_false,eT (rfl:(4:Int)=4),YC,WL]
end Go.V
end
