/- What law 9 of the copies needs beyond what all laws need: functions read, and the plain law. -/
import Derived.Test.YtmkbnifehdhbbabGreatDoorQL
import Derived.Test.YtmkbnifehdhbbabGreatDoorCR2
import Derived.Test.YtmkbnifehdhbbabGreatDoorCRA
import Derived.Lib.ItoaLen
import Derived.Laws.RangeString
set_option linter.all false
noncomputable section
namespace Go.V
open Go.Proofs
def specs13:List Spec:=[]
def hints13:List (Nat×List Nat):=[(2,[1,3])]
def L13_0 (N:Nat) (n_L13_0:Nat) (x:lt1) (i_1:Int):Out Bool :=
 vloop Tryz.prog (phi specs13) hints13 N Tryz.f12 false false .bool [.at 1,.at 0,.at 1,.at 0] n_L13_0 [U,.box [.d (.int .i64) x.1.1,.d ty0 x.1.2.1],U,.d (.int .i64) i_1,U,U,U,U,U,U,U,U,U,U,U,U,U,U,U,U,U,U,U,U,U,U,U]
theorem L13_0_succ (N:Nat) (n_L13_0:Nat) (x:lt1) (i_1:Int):L13_0 N  (n_L13_0+1) x i_1 =
 (match (decide (i_1<(lenI x.1.2.1))) with|true=>(match (decide (i_1<10)) with|true=>bif (inb i_1 x.1.2.1.length) then match (decide ((lenI ((List.getD x.1.2.1 i_1.toNat (0,([],())))).2.1) > 5)) with|true=>.ret false|false=>L13_0 N n_L13_0 x (IntKind.i64.wrap (i_1+1)) else .fail|false=>.ret (decide ((lenI x.1.2.1)<=10)))|false=>.ret (decide ((lenI x.1.2.1)<=10)):Out Bool):=by kernel_rfl
def F13 (N:Nat) (x:lt1):Out Bool:=L13_0 N N x 0
theorem e13 (N:Nat) (x:lt1):vfn Tryz.prog (phi specs13) hints13 N Tryz.f12 false false ty2 .bool x=F13 N x:=by kernel_rfl
def f13 (x:lt1):Out Bool:=F13 fuel x
def sp13:Spec:=⟨12,.call,ty2,.bool,false,false,f13⟩
theorem c13:Contract Tryz.prog sp13:=contract_at (l:=specs13) (arg:=ty2) (res:=.bool) (multi:=false) (own:=false) (F:=f13) mixed all_nil Tryz.func12 rfl hints13 fun x _=>⟨fuel,e13 fuel x⟩
def specs61:List Spec:=[]
def hints61:List (Nat×List Nat):=[]
theorem e61 (N:Nat) (x:(Int×(Int×(Int×Unit)))):vfn Tryz.prog (phi specs61) hints61 N Tryz.f60 false false ty10 .bool x=F61 N x:=by kernel_rfl
theorem c61:Contract Tryz.prog sp61:=contract_at (l:=specs61) (arg:=ty10) (res:=.bool) (multi:=false) (own:=false) (F:=f61) mixed all_nil Tryz.func60 rfl hints61 fun x _=>⟨fuel,e61 fuel x⟩
def L93_1 (N:Nat) (n_L93_0:Nat) (n_L93_1:Nat) (x:((List (List UInt8))×(Int×Unit))) (out_1:(List UInt8)) (i_3:Int) (check_4:Int) (k_5:Int):Out (List UInt8) :=
 vloop Tryz.prog (phi specs93) hints93 N Tryz.f79 false false .str [.at 1,.at 1,.at 0,.at 1,.at 0,.at n_L93_0,.at 1,.at 0,.at 0,.at 0,.at 1,.at 0] n_L93_1 [.d (.list .str) x.1,.d (.int .i64) x.2.1,U,U,U,.d .str out_1,.d (.int .i64) check_4,.d (.int .i64) i_3,.d (.int .i64) k_5,U,U,U,U,U,U,U,U,U,U,U,U,U,U,U,U,U,U,U,U,U,U,U,U,U,U,U,U,U,U,U,U,U,U,U,U,U,U,U,U,U,U,U,U,U,U,U,U,U,U,U,U,U,U,U,U]
theorem L93_1_succ (N:Nat) (n_L93_0:Nat) (n_L93_1:Nat) (x:((List (List UInt8))×(Int×Unit))) (out_1:(List UInt8)) (i_3:Int) (check_4:Int) (k_5:Int):L93_1 N n_L93_0 (n_L93_1+1) x out_1 i_3 check_4 k_5 =
 (bif (inb i_3 x.1.length) then match (decide (k_5<(lenI (List.getD x.1 i_3.toNat ([]:List UInt8))))) with|true=>bif (inb i_3 x.1.length) then bif (inb k_5 (List.getD x.1 i_3.toNat ([]:List UInt8)).length) then L93_1 N n_L93_0 n_L93_1 x out_1 i_3 (IntKind.i64.wrap (check_4+(IntKind.i64.wrap ((IntKind.i64.wrap ((IntKind.i64.wrap (byteAt (List.getD x.1 i_3.toNat ([]:List UInt8)) k_5)) * (IntKind.i64.wrap (k_5+1)))) * (IntKind.i64.wrap (i_3+1)))))) (IntKind.i64.wrap (k_5+1)) else .fail else .fail|false=>bif (inb i_3 x.1.length) then bif (decide (out_1.length+(List.getD x.1 i_3.toNat ([]:List UInt8)).length<1000000)) then bif (decide ((out_1++(List.getD x.1 i_3.toNat ([]:List UInt8))).length+([10]:List UInt8).length<1000000)) then L93_0 N n_L93_0 x ((out_1++(List.getD x.1 i_3.toNat ([]:List UInt8)))++([10]:List UInt8)) check_4 (IntKind.i64.wrap (i_3+1)) else .fail else .fail else .fail else .fail:Out (List UInt8)):=by kernel_rfl
theorem L93_0_succ (N:Nat) (n_L93_0:Nat) (x:((List (List UInt8))×(Int×Unit))) (out_1:(List UInt8)) (check_2:Int) (i_3:Int):L93_0 N  (n_L93_0+1) x out_1 check_2 i_3 =
 (match (decide (i_3<(lenI x.1))) with|true=>L93_1 N n_L93_0 N x out_1 i_3 check_2 0|false=>bif (x.2.1 != 0) then bif (decide (out_1.length+([101,110,100,32]:List UInt8).length<1000000)) then match f92 ((IntKind.i64.wrap ((check_2.tmod x.2.1).tdiv 100)),()) with | .ret r_6=>bif (decide ((out_1++([101,110,100,32]:List UInt8)).length+r_6.length<1000000)) then match f92 (((IntKind.i64.wrap ((check_2.tmod x.2.1).tdiv 10)).tmod 10),()) with | .ret r_8=>bif (decide (((out_1++([101,110,100,32]:List UInt8))++r_6).length+r_8.length<1000000)) then match f92 (((check_2.tmod x.2.1).tmod 10),()) with | .ret r_10=>bif (decide ((((out_1++([101,110,100,32]:List UInt8))++r_6)++r_8).length+r_10.length<1000000)) then bif (decide (((((out_1++([101,110,100,32]:List UInt8))++r_6)++r_8)++r_10).length+([10]:List UInt8).length<1000000)) then .ret (((((out_1++([101,110,100,32]:List UInt8))++r_6)++r_8)++r_10)++([10]:List UInt8)) else .fail else .fail | .pan p=>.pan p | .fail=>.fail else .fail | .pan p=>.pan p | .fail=>.fail else .fail | .pan p=>.pan p | .fail=>.fail else .fail else .fail:Out (List UInt8)):=by kernel_rfl
theorem L114_0_succ (N:Nat) (n_L114_0:Nat) (x:((List UInt8)×(Bool×Unit))) (out_3:(List Int)) (t13_4:Nat):L114_0 N  (n_L114_0+1) x out_3 t13_4 =
 (match (decide (t13_4<x.1.length)) with|true=>bif (decide (t13_4<x.1.length)) then match x.2.1 with|true=>(match ((runeAt x.1 t13_4)==63) with|true=>bif (fits out_3 ([(-1)]:List Int)) then L114_0 N n_L114_0 x (out_3++([(-1)]:List Int)) (posAt x.1 t13_4) else .fail|false=>match (decide ((runeAt x.1 t13_4) >= 48)) with|true=>(match f113 ((decide ((runeAt x.1 t13_4)<=57)),(x.1,())) with | .ret r_5=>bif (fits out_3 ([(IntKind.i64.wrap (IntKind.i32.wrap ((runeAt x.1 t13_4) - 48)))]:List Int)) then L114_0 N n_L114_0 x (out_3++([(IntKind.i64.wrap (IntKind.i32.wrap ((runeAt x.1 t13_4) - 48)))]:List Int)) (posAt x.1 t13_4) else .fail | .pan p=>.pan p | .fail=>.fail)|false=>match f113 (false,(x.1,())) with | .ret r_7=>bif (fits out_3 ([(IntKind.i64.wrap (IntKind.i32.wrap ((runeAt x.1 t13_4) - 48)))]:List Int)) then L114_0 N n_L114_0 x (out_3++([(IntKind.i64.wrap (IntKind.i32.wrap ((runeAt x.1 t13_4) - 48)))]:List Int)) (posAt x.1 t13_4) else .fail | .pan p=>.pan p | .fail=>.fail)|false=>match (decide ((runeAt x.1 t13_4) >= 48)) with|true=>(match f113 ((decide ((runeAt x.1 t13_4)<=57)),(x.1,())) with | .ret r_9=>bif (fits out_3 ([(IntKind.i64.wrap (IntKind.i32.wrap ((runeAt x.1 t13_4) - 48)))]:List Int)) then L114_0 N n_L114_0 x (out_3++([(IntKind.i64.wrap (IntKind.i32.wrap ((runeAt x.1 t13_4) - 48)))]:List Int)) (posAt x.1 t13_4) else .fail | .pan p=>.pan p | .fail=>.fail)|false=>match f113 (false,(x.1,())) with | .ret r_11=>bif (fits out_3 ([(IntKind.i64.wrap (IntKind.i32.wrap ((runeAt x.1 t13_4) - 48)))]:List Int)) then L114_0 N n_L114_0 x (out_3++([(IntKind.i64.wrap (IntKind.i32.wrap ((runeAt x.1 t13_4) - 48)))]:List Int)) (posAt x.1 t13_4) else .fail | .pan p=>.pan p | .fail=>.fail else .fail|false=>.ret out_3:Out (List Int)):=by kernel_rfl
def specs46:List Spec:=[sp61]
def hints46:List (Nat×List Nat):=[]
theorem e46 (N:Nat) (x:(Int×Unit)):vfn Tryz.prog (phi specs46) hints46 N Tryz.f31 false false (.prod (.int .i64) .unit) .bool x=F46 N x:=by kernel_rfl
theorem c46:Contract Tryz.prog sp46:=contract_at (l:=specs46) (arg:=(.prod (.int .i64) .unit)) (res:=.bool) (multi:=false) (own:=false) (F:=f46) mixed (all_cons c61 all_nil) Tryz.func31 rfl hints46 fun x _=>⟨fuel,e46 fuel x⟩
theorem L91_0_succ (N:Nat) (n_L91_0:Nat) (x:((List UInt8)×((List Int)×Unit))) (word_1:(List UInt8)) (i_2:Int):L91_0 N  (n_L91_0+1) x word_1 i_2 =
 (match (decide (i_2<(lenI x.2.1))) with|true=>bif (decide (word_1.length+([32]:List UInt8).length<1000000)) then bif (inb i_2 x.2.1.length) then match f92 ((List.getD x.2.1 i_2.toNat 0),()) with | .ret r_3=>bif (decide ((word_1++([32]:List UInt8)).length+r_3.length<1000000)) then L91_0 N n_L91_0 x ((word_1++([32]:List UInt8))++r_3) (IntKind.i64.wrap (i_2+1)) else .fail | .pan p=>.pan p | .fail=>.fail else .fail else .fail|false=>.ret word_1:Out (List UInt8)):=by kernel_rfl
theorem L130a_0_succ (N:Nat) (n_L130a_0:Nat) (x:(Int×Unit)) (out_1:(List UInt8)) (t36_2:(List Int)) (t38_3:Int):L130a_0 N  (n_L130a_0+1) x out_1 t36_2 t38_3 =
 (match (decide (t38_3<(lenI ([x.1]:List Int)))) with|true=>bif (inb t38_3 t36_2.length) then match f131 ((List.getD t36_2 t38_3.toNat 0),()) with | .ret r_4=>bif (decide (([32]:List UInt8).length+r_4.length<1000000)) then bif (decide (out_1.length+(([32]:List UInt8)++r_4).length<1000000)) then L130a_0 N n_L130a_0 x (out_1++(([32]:List UInt8)++r_4)) t36_2 (IntKind.i64.wrap (t38_3+1)) else .fail else .fail | .pan p=>.pan p | .fail=>.fail else .fail|false=>bif (decide (out_1.length+([]:List UInt8).length<1000000)) then .ret (out_1++([]:List UInt8)) else .fail:Out (List UInt8)):=by kernel_rfl
def L130b_1 (N:Nat) (n_L130b_1:Nat) (figures_1:(List UInt8)) (x:lt12) (out_5:(List UInt8)) (t36_6:(List Int)) (t38_7:Int):Out (List UInt8) :=
 vloop Tryz.prog (phi specs130b) hints130b N Tryz.f105 false false .str [.at 1,.at 1,.at 1,.at 1,.at 0,.at 1,.at 0] n_L130b_1 [U,U,U,U,.d .str figures_1,U,U,U,.d .str out_5,U,U,U,U,U,U,U,U,U,U,U,U,U,U,U,U,U,U,U,U,U,U,U,U,U,U,U,.own (.int .i64) t36_6 false,.d (.int .i64) (lenI ([x.1.1.1]:List Int)),.d (.int .i64) t38_7,U,U,U,U,U,U,U,U,U,U,U,U]
theorem L130b_1_succ (N:Nat) (n_L130b_1:Nat) (figures_1:(List UInt8)) (x:lt12) (out_5:(List UInt8)) (t36_6:(List Int)) (t38_7:Int):L130b_1 N  (n_L130b_1+1) figures_1 x out_5 t36_6 t38_7 =
 (match (decide (t38_7<(lenI ([x.1.1.1]:List Int)))) with|true=>bif (inb t38_7 t36_6.length) then match f131 ((List.getD t36_6 t38_7.toNat 0),()) with | .ret r_8=>bif (decide (([32]:List UInt8).length+r_8.length<1000000)) then bif (decide (out_5.length+(([32]:List UInt8)++r_8).length<1000000)) then L130b_1 N n_L130b_1 figures_1 x (out_5++(([32]:List UInt8)++r_8)) t36_6 (IntKind.i64.wrap (t38_7+1)) else .fail else .fail | .pan p=>.pan p | .fail=>.fail else .fail|false=>bif (decide (out_5.length+figures_1.length<1000000)) then .ret (out_5++figures_1) else .fail:Out (List UInt8)):=by kernel_rfl
theorem L130b_0_succ (N:Nat) (n_L130b_0:Nat) (x:lt12) (figures_1:(List UInt8)) (t19_2:Int):L130b_0 N  (n_L130b_0+1) x figures_1 t19_2 =
 (match (decide (t19_2<(lenI x.1.1.2.1))) with|true=>bif (inb t19_2 x.1.1.2.1.length) then match ((List.getD x.1.1.2.1 t19_2.toNat 0)==(-1)) with|true=>bif (decide (figures_1.length+([63]:List UInt8).length<1000000)) then L130b_0 N n_L130b_0 x (figures_1++([63]:List UInt8)) (IntKind.i64.wrap (t19_2+1)) else .fail|false=>match f131 ((List.getD x.1.1.2.1 t19_2.toNat 0),()) with | .ret r_3=>bif (decide (figures_1.length+r_3.length<1000000)) then L130b_0 N n_L130b_0 x (figures_1++r_3) (IntKind.i64.wrap (t19_2+1)) else .fail | .pan p=>.pan p | .fail=>.fail else .fail|false=>L130b_1 N N figures_1 x ([99,111,112,121]:List UInt8) ([x.1.1.1]:List Int) 0:Out (List UInt8)):=by kernel_rfl
theorem e17 (N:Nat) (x:lt1):vfn Tryz.prog (phi specs17) hints17 N Tryz.f15 false false ty2 .bool x=F17 N x:=by kernel_rfl
def sp17:Spec:=⟨15,.call,ty2,.bool,false,false,f17⟩
theorem c17:Contract Tryz.prog sp17:=contract_at (l:=specs17) (arg:=ty2) (res:=.bool) (multi:=false) (own:=false) (F:=f17) mixed (all_cons c61 (all_cons c46 all_nil)) Tryz.func15 rfl hints17 fun x _=>⟨fuel,e17 fuel x⟩
def L54_1 (N:Nat) (n_L54_0:Nat) (n_L54_1:Nat) (x:lt1) (i_4:Int) (rows_7:(List (List UInt8))) (s_8:(List UInt8)) (p_9:Int):Out (List UInt8) :=
 vloop Tryz.prog (phi specs54) hints54 N Tryz.f40 false false .str [.at 1,.at 1,.at 0,.at 1,.at 0,.at n_L54_0,.at 1,.at 0,.at 0,.at 1,.at 0,.at 1,.at 0] n_L54_1 [U,.box [.d (.int .i64) x.1.1,.d ty0 x.1.2.1],U,.own .str rows_7 false,.d (.int .i64) i_4,.d .str s_8,.d (.int .i64) p_9,U,U,U,U,U,U,U,U,U,U,U,U,U,U,U,U,U,U,U,U,U,U,U,U,U,U,U,U,U,U,U,U,U,U,U,U,U,U,U,U,U,U,U,U,U,U,U,U,U,U,U,U,U,U,U,U,U,U,U,U,U,U]
theorem L54_1_succ (N:Nat) (n_L54_0:Nat) (n_L54_1:Nat) (x:lt1) (i_4:Int) (rows_7:(List (List UInt8))) (s_8:(List UInt8)) (p_9:Int):L54_1 N n_L54_0 (n_L54_1+1) x i_4 rows_7 s_8 p_9 =
 (bif (inb i_4 x.1.2.1.length) then match (decide (p_9<(lenI ((List.getD x.1.2.1 i_4.toNat (0,([],())))).2.1))) with|true=>bif (inb i_4 x.1.2.1.length) then bif (inb p_9 ((List.getD x.1.2.1 i_4.toNat (0,([],())))).2.1.length) then match (decide ((List.getD ((List.getD x.1.2.1 i_4.toNat (0,([],())))).2.1 p_9.toNat 0)<0)) with|true=>bif (decide (s_8.length+([63]:List UInt8).length<1000000)) then L54_1 N n_L54_0 n_L54_1 x i_4 rows_7 (s_8++([63]:List UInt8)) (IntKind.i64.wrap (p_9+1)) else .fail|false=>bif (inb i_4 x.1.2.1.length) then bif (inb p_9 ((List.getD x.1.2.1 i_4.toNat (0,([],())))).2.1.length) then match f92 ((List.getD ((List.getD x.1.2.1 i_4.toNat (0,([],())))).2.1 p_9.toNat 0),()) with | .ret r_10=>bif (decide (s_8.length+r_10.length<1000000)) then L54_1 N n_L54_0 n_L54_1 x i_4 rows_7 (s_8++r_10) (IntKind.i64.wrap (p_9+1)) else .fail | .pan p=>.pan p | .fail=>.fail else .fail else .fail else .fail else .fail|false=>bif (fits rows_7 ([s_8]:List (List UInt8))) then L54_0 N n_L54_0 x (rows_7++([s_8]:List (List UInt8))) (IntKind.i64.wrap (i_4+1)) else .fail else .fail:Out (List UInt8)):=by kernel_rfl
theorem L54_0_succ (N:Nat) (n_L54_0:Nat) (x:lt1) (rows_3:(List (List UInt8))) (i_4:Int):L54_0 N  (n_L54_0+1) x rows_3 i_4 =
 (match (decide (i_4<(lenI x.1.2.1))) with|true=>bif (inb i_4 x.1.2.1.length) then match f91 (([99,111,112,121]:List UInt8),(([((List.getD x.1.2.1 i_4.toNat (0,([],())))).1]:List Int),())) with | .ret r_5=>bif (decide (r_5.length+([32]:List UInt8).length<1000000)) then L54_1 N n_L54_0 N x i_4 rows_3 (r_5++([32]:List UInt8)) 0 else .fail | .pan p=>.pan p | .fail=>.fail else .fail|false=>match f93 (rows_3,(257,())) with | .ret r=>.ret r | .pan p=>.pan p | .fail=>.fail:Out (List UInt8)):=by kernel_rfl
def L115_2 (N:Nat) (n_L115_1:Nat) (n_L115_2:Nat) (t32_9:Int) (rows_3:(List (List UInt8))) (rows_10:(List (List UInt8))) (check_11:Int) (t39_12:Int):Out (List UInt8) :=
 vloop Tryz.prog (phi specs115) hints115 N Tryz.f73 false false .str [.at 1,.at 1,.at 1,.at 1,.at 0,.at 1,.at 0,.at n_L115_1,.at 1,.at 1,.at 0,.at 0,.at 1,.at 1,.at 0] n_L115_2 [U,U,U,.own .str rows_10 false,U,U,.d (.int .i64) check_11,.d (.int .i64) t32_9,.d .str (List.getD rows_3 t32_9.toNat ([]:List UInt8)),U,U,U,U,U,U,U,U,U,U,U,U,U,U,U,U,U,U,U,U,U,.d (.list .str) rows_3,.d (.int .i64) (lenI rows_3),.d (.int .i64) t32_9,U,U,U,U,U,.d (.int .i64) (lenI (List.getD rows_3 t32_9.toNat ([]:List UInt8))),.d (.int .i64) t39_12,U,U,U,U,U,U,U,U,U,U,U,U,U,U,U,U,U,U,U,U,U,U,U,U,U,U,U,U,U,U,U,U,U,U,U,U,U]
def L115_1 (N:Nat) (n_L115_1:Nat) (rows_3:(List (List UInt8))) (rows_7:(List (List UInt8))) (check_8:Int) (t32_9:Int):Out (List UInt8) :=
 vloop Tryz.prog (phi specs115) hints115 N Tryz.f73 false false .str [.at 1,.at 1,.at 1,.at 1,.at 0,.at 1,.at 0] n_L115_1 [U,U,U,.own .str rows_7 false,U,U,.d (.int .i64) check_8,U,U,U,U,U,U,U,U,U,U,U,U,U,U,U,U,U,U,U,U,U,U,U,.d (.list .str) rows_3,.d (.int .i64) (lenI rows_3),.d (.int .i64) t32_9,U,U,U,U,U,U,U,U,U,U,U,U,U,U,U,U,U,U,U,U,U,U,U,U,U,U,U,U,U,U,U,U,U,U,U,U,U,U,U,U,U,U,U,U]
theorem L115_2_succ (N:Nat) (n_L115_1:Nat) (n_L115_2:Nat) (t32_9:Int) (rows_3:(List (List UInt8))) (rows_10:(List (List UInt8))) (check_11:Int) (t39_12:Int):L115_2 N n_L115_1 (n_L115_2+1) t32_9 rows_3 rows_10 check_11 t39_12 =
 (match (decide (t39_12<(lenI (List.getD rows_3 t32_9.toNat ([]:List UInt8))))) with|true=>bif (inb t39_12 (List.getD rows_3 t32_9.toNat ([]:List UInt8)).length) then L115_2 N n_L115_1 n_L115_2 t32_9 rows_3 rows_10 (IntKind.i64.wrap (check_11+(IntKind.i64.wrap ((IntKind.i64.wrap ((IntKind.i64.wrap (byteAt (List.getD rows_3 t32_9.toNat ([]:List UInt8)) t39_12)) * (IntKind.i64.wrap (t39_12+1)))) * (IntKind.i64.wrap (t32_9+1)))))) (IntKind.i64.wrap (t39_12+1)) else .fail|false=>L115_1 N n_L115_1 rows_3 rows_10 check_11 (IntKind.i64.wrap (t32_9+1)):Out (List UInt8)):=by kernel_rfl
theorem L115_1_succ (N:Nat) (n_L115_1:Nat) (rows_3:(List (List UInt8))) (rows_7:(List (List UInt8))) (check_8:Int) (t32_9:Int):L115_1 N  (n_L115_1+1) rows_3 rows_7 check_8 t32_9 =
 (match (decide (t32_9<(lenI rows_3))) with|true=>bif (inb t32_9 rows_3.length) then L115_2 N n_L115_1 N t32_9 rows_3 rows_7 check_8 0 else .fail|false=>match f131 ((IntKind.i64.wrap ((check_8.tmod 257).tdiv 100)),()) with | .ret r_13=>bif (decide (([101,110,100,32]:List UInt8).length+r_13.length<1000000)) then match f131 (((IntKind.i64.wrap ((check_8.tmod 257).tdiv 10)).tmod 10),()) with | .ret r_15=>bif (decide ((([101,110,100,32]:List UInt8)++r_13).length+r_15.length<1000000)) then match f131 (((check_8.tmod 257).tmod 10),()) with | .ret r_17=>bif (decide (((([101,110,100,32]:List UInt8)++r_13)++r_15).length+r_17.length<1000000)) then bif (fits rows_7 ([(((([101,110,100,32]:List UInt8)++r_13)++r_15)++r_17)]:List (List UInt8))) then match f132 ((rows_7++([(((([101,110,100,32]:List UInt8)++r_13)++r_15)++r_17)]:List (List UInt8))),(([10]:List UInt8),())) with | .ret r_19=>bif (decide (r_19.length+([10]:List UInt8).length<1000000)) then .ret (r_19++([10]:List UInt8)) else .fail | .pan p=>.pan p | .fail=>.fail else .fail else .fail | .pan p=>.pan p | .fail=>.fail else .fail | .pan p=>.pan p | .fail=>.fail else .fail | .pan p=>.pan p | .fail=>.fail:Out (List UInt8)):=by kernel_rfl
theorem L115_0_succ (N:Nat) (n_L115_0:Nat) (x:lt1) (rows_3:(List (List UInt8))) (t18_4:Int):L115_0 N  (n_L115_0+1) x rows_3 t18_4 =
 (match (decide (t18_4<(lenI x.1.2.1))) with|true=>bif (inb t18_4 x.1.2.1.length) then match f130b (((((List.getD x.1.2.1 t18_4.toNat (0,([],())))).1,(((List.getD x.1.2.1 t18_4.toNat (0,([],())))).2.1,())),()),()) with | .ret r_5=>bif (fits rows_3 ([r_5]:List (List UInt8))) then L115_0 N n_L115_0 x (rows_3++([r_5]:List (List UInt8))) (IntKind.i64.wrap (t18_4+1)) else .fail | .pan p=>.pan p | .fail=>.fail else .fail|false=>L115_1 N N rows_3 rows_3 0 0:Out (List UInt8)):=by kernel_rfl
end Go.V
namespace Go.V
open Go.Proofs
theorem f13_at (t:TREE):∃ b,f13 (t,()) = .ret b:=by
 have hfb:=fuel_big;unfold f13 F13;have done:∀ n i:Nat,¬ (i:Int)<t.2.1.length\/¬ i<10->∃ b,L13_0 fuel (n+1) (t,()) i = .ret b:=fun n i h=>by
  rw [L13_0_succ]
  try delta lenI
  by_cases h1:(i:Int)<t.2.1.length
  . have h2:¬ (i:Int)<10:=by rcases h with h|h<;>omega
    simp only [dT h1,dF h2];exact ⟨_,rfl⟩
  . simp only [dF h1];exact ⟨_,rfl⟩
 have loop:∀ (d n i:Nat),d<n->i+d=10->∃ b,L13_0 fuel n (t,()) i = .ret b:=by
  intro d
  induction d with
  | zero =>
   intro n i hn hi;obtain ⟨n,rfl⟩:=succ_of hn;exact done n i (.inr (by omega))
  | succ d ih =>
   intro n i hn hi;obtain ⟨n,rfl⟩:=succ_of hn
   by_cases h1:(i:Int)<t.2.1.length
   . rw [L13_0_succ]
     try delta lenI
     simp only [dT h1,dT (show (i:Int)<10 by omega),inbT (show (0:Int)<=i by omega) h1,cond_true,wn (show i<1000000000 by omega)];split
     . exact ⟨_,rfl⟩
     . exact ih n (i+1) (by omega) (by omega)
   . exact done n i (.inl h1)
 exact loop 10 fuel 0 (by omega) (by omega)
end Go.V
namespace Go.V
open Go.Proofs
theorem TreeOK.t17 {t:TREE} (h:TreeOK t):f17 (t,()) = .ret true:=by
 rcases tree_ret (t:=t) with ⟨_,h1,_⟩|⟨h1,_⟩
 . exact h1
 . exact absurd h h1
theorem no17 {t:TREE} (h:¬ TreeOK t):f17 (t,()) = .ret false:=by
 rcases tree_ret (t:=t) with ⟨h1,_⟩|⟨_,h1,_⟩
 . exact absurd h1 h
 . exact h1
theorem no55 {t:TREE} (h:¬ TreeOK t):f55 (t,()) = .ret false:=by
 rcases tree_ret (t:=t) with ⟨h1,_⟩|⟨_,_,h1⟩
 . exact absurd h1 h
 . exact h1
end Go.V
namespace Go.V
open Go.Proofs
theorem L90_0_succ (N:Nat) (n_L90_0:Nat) (x:lt7) (r_1:(List (List UInt8))) (t2_13:Int) (t2_14:(List (Int×lt0))) (t_15:Int) (t_16:(List (Int×lt0))) (t46_17:Int):L90_0 N  (n_L90_0+1) x r_1 t2_13 t2_14 t_15 t_16 t46_17 =
 (match (decide (t46_17<(lenI (cut r_1 1 (IntKind.i64.wrap ((lenI r_1) - 2)))))) with|true=>bif (inb t46_17 (cut r_1 1 (IntKind.i64.wrap ((lenI r_1) - 2))).length) then match f112 ((List.getD (cut r_1 1 (IntKind.i64.wrap ((lenI r_1) - 2))) t46_17.toNat ([]:List UInt8)),(([32]:List UInt8),())) with | .ret r_18=>(match f113 (((lenI r_18)==3),((List.getD (cut r_1 1 (IntKind.i64.wrap ((lenI r_1) - 2))) t46_17.toNat ([]:List UInt8)),())) with | .ret r_20=>bif (inb 1 r_18.length) then match f114 ((List.getD r_18 (1:Int).toNat ([]:List UInt8)),(false,())) with | .ret r_22=>(match f113 (((lenI r_22)==1),((List.getD (cut r_1 1 (IntKind.i64.wrap ((lenI r_1) - 2))) t46_17.toNat ([]:List UInt8)),())) with | .ret r_24=>bif (inb 0 r_22.length) then bif (inb 2 r_18.length) then match f114 ((List.getD r_18 (2:Int).toNat ([]:List UInt8)),(true,())) with | .ret r_26=>bif (fits t_16 ([((List.getD r_22 (0:Int).toNat 0),(r_26,()))]:List (Int×lt0))) then L90_0 N n_L90_0 x r_1 t2_13 t2_14 t_15 (t_16++([((List.getD r_22 (0:Int).toNat 0),(r_26,()))]:List (Int×lt0))) (IntKind.i64.wrap (t46_17+1)) else .fail | .pan p=>.pan p | .fail=>.fail else .fail else .fail | .pan p=>.pan p | .fail=>.fail) | .pan p=>.pan p | .fail=>.fail else .fail | .pan p=>.pan p | .fail=>.fail) | .pan p=>.pan p | .fail=>.fail else .fail|false=>match f115 ((t_15,(t_16,())),()) with | .ret r_28=>(match f113 ((r_28==x.1),(x.1,())) with | .ret r_30=>.ret (t_15,(t_16,())) | .pan p=>.pan p | .fail=>.fail) | .pan p=>.pan p | .fail=>.fail:Out (Int×lt22)):=by kernel_rfl
end Go.V
namespace Go.V
open Go.Proofs
@[irreducible] def f13v:lt1->Out Bool:=veil f13
theorem f13v_eq:f13v=f13:=by unfold f13v;exact veil_eq f13
def sp13v:Spec:=⟨12,.call,ty2,.bool,false,false,f13v⟩
theorem c13v:Contract Tryz.prog sp13v:=by
 unfold sp13v
 rw [f13v_eq]
 exact c13
@[irreducible] def f17v:lt1->Out Bool:=veil f17
theorem f17v_eq:f17v=f17:=by unfold f17v;exact veil_eq f17
def sp17v:Spec:=⟨15,.call,ty2,.bool,false,false,f17v⟩
theorem c17v:Contract Tryz.prog sp17v:=by
 unfold sp17v
 rw [f17v_eq]
 exact c17
end Go.V
namespace Go.V
open Go.Proofs
theorem b22:((2:Int)==2)=true:=rfl
theorem b00:((0:Int)==0)=true:=rfl
theorem nt:(!true)=false:=rfl
theorem nf:(!false)=true:=rfl
end Go.V
namespace Go.V
open Go.Proofs
def specs38n:List Spec:=[sp55,sp115]
def hints38n:List (Nat×List Nat):=[]
def F38n (N:Nat) (x:lt1):Out ((List UInt8)×(Int×Unit)):=match f55 (x.1,()) with | .ret r_1=>(match (!r_1) with|true=>.ret (([]:List UInt8),(2,()))|false=>match f115 (x.1,()) with | .ret r_3=>.ret (r_3,(0,())) | .pan p=>.pan p | .fail=>.fail) | .pan p=>.pan p | .fail=>.fail
theorem e38n (N:Nat) (x:lt1):vfn Tryz.prog (phi specs38n) hints38n N Tryz.f38 true false ty2 (.prod .str (.prod (.int .i64) .unit)) x=F38n N x:=by kernel_rfl
def f38n (x:lt1):Out ((List UInt8)×(Int×Unit)):=F38n fuel x
def sp38n:Spec:=⟨38,.call,ty2,(.prod .str (.prod (.int .i64) .unit)),true,false,f38n⟩
theorem c38n:Contract Tryz.prog sp38n:=contract_at (l:=specs38n) (arg:=ty2) (res:=(.prod .str (.prod (.int .i64) .unit))) (multi:=true) (own:=false) (F:=f38n) mixed (all_cons c55 (all_cons c115 all_nil)) Tryz.func38 rfl hints38n fun x _=>⟨fuel,e38n fuel x⟩
def specs41n:List Spec:=[sp19]
def hints41n:List (Nat×List Nat):=[(4,[2,3,5])]
def L41n_0 (N:Nat) (n_L41n_0:Nat) (x:((Int×((List (Int×((List Int)×Unit)))×Unit))×((Int×((List (Int×((List Int)×Unit)))×Unit))×Unit))) (i_1:Int):Out Bool :=
 vloop Tryz.prog (phi specs41n) hints41n N Tryz.f41 false false .bool [.at 1,.at 1,.at 0,.at 1,.at 0] n_L41n_0 [U,U,.box [.d (.int .i64) x.1.1,.d ty0 x.1.2.1],.box [.d (.int .i64) x.2.1.1,.d ty0 x.2.1.2.1],U,.d (.int .i64) i_1,U,U,U,U,U,U,U,U,U,U,U,U,U,U,U,U,U,U,U,U,U,U,U,U,U,U,U,U,U,U,U,U,U,U,U,U,U,U,U,U,U,U,U,U,U,U,U,U,U,U]
theorem L41n_0_succ (N:Nat) (n_L41n_0:Nat) (x:((Int×((List (Int×((List Int)×Unit)))×Unit))×((Int×((List (Int×((List Int)×Unit)))×Unit))×Unit))) (i_1:Int):L41n_0 N  (n_L41n_0+1) x i_1 =
 (match (decide (i_1<(lenI x.1.2.1))) with|true=>bif (inb i_1 x.1.2.1.length) then bif (inb i_1 x.2.1.2.1.length) then match (((List.getD x.1.2.1 i_1.toNat (0,([],())))).1 != ((List.getD x.2.1.2.1 i_1.toNat (0,([],())))).1) with|true=>.ret false|false=>bif (inb i_1 x.1.2.1.length) then bif (inb i_1 x.2.1.2.1.length) then match f19 (((List.getD x.1.2.1 i_1.toNat (0,([],())))).2.1,(((List.getD x.2.1.2.1 i_1.toNat (0,([],())))).2.1,())) with | .ret r_2=>(match (!r_2) with|true=>.ret false|false=>L41n_0 N n_L41n_0 x (IntKind.i64.wrap (i_1+1))) | .pan p=>.pan p | .fail=>.fail else .fail else .fail else .fail else .fail|false=>.ret true:Out Bool):=by kernel_rfl
def F41n (N:Nat) (x:((Int×((List (Int×((List Int)×Unit)))×Unit))×((Int×((List (Int×((List Int)×Unit)))×Unit))×Unit))):Out Bool:=match (x.1.1 != x.2.1.1) with|true=>.ret false|false=>match ((lenI x.1.2.1) != (lenI x.2.1.2.1)) with|true=>.ret false|false=>L41n_0 N N x 0
theorem e41n (N:Nat) (x:((Int×((List (Int×((List Int)×Unit)))×Unit))×((Int×((List (Int×((List Int)×Unit)))×Unit))×Unit))):vfn Tryz.prog (phi specs41n) hints41n N Tryz.f41 false false (.prod (.prod (.int .i64) (.prod (.list (.prod (.int .i64) (.prod (.list (.int .i64)) .unit))) .unit)) (.prod (.prod (.int .i64) (.prod (.list (.prod (.int .i64) (.prod (.list (.int .i64)) .unit))) .unit)) .unit)) .bool x=F41n N x:=by kernel_rfl
def f41n (x:((Int×((List (Int×((List Int)×Unit)))×Unit))×((Int×((List (Int×((List Int)×Unit)))×Unit))×Unit))):Out Bool:=F41n fuel x
def sp41n:Spec:=⟨41,.call,(.prod (.prod (.int .i64) (.prod (.list (.prod (.int .i64) (.prod (.list (.int .i64)) .unit))) .unit)) (.prod (.prod (.int .i64) (.prod (.list (.prod (.int .i64) (.prod (.list (.int .i64)) .unit))) .unit)) .unit)),.bool,false,false,f41n⟩
theorem c41n:Contract Tryz.prog sp41n:=contract_at (l:=specs41n) (arg:=(.prod (.prod (.int .i64) (.prod (.list (.prod (.int .i64) (.prod (.list (.int .i64)) .unit))) .unit)) (.prod (.prod (.int .i64) (.prod (.list (.prod (.int .i64) (.prod (.list (.int .i64)) .unit))) .unit)) .unit))) (res:=.bool) (multi:=false) (own:=false) (F:=f41n) mixed (all_cons c19 all_nil) Tryz.func41 rfl hints41n fun x _=>⟨fuel,e41n fuel x⟩
end Go.V
namespace Go.V
open Go.Proofs
@[irreducible] def f38nv:lt1->Out ((List UInt8)×(Int×Unit)):=veil f38n
theorem f38nv_eq:f38nv=f38n:=by unfold f38nv;exact veil_eq f38n
def sp38nv:Spec:=⟨38,.call,ty2,(.prod .str (.prod (.int .i64) .unit)),true,false,f38nv⟩
theorem c38nv:Contract Tryz.prog sp38nv:=by
 unfold sp38nv
 rw [f38nv_eq]
 exact c38n
@[irreducible] def f41nv:((Int×((List (Int×((List Int)×Unit)))×Unit))×((Int×((List (Int×((List Int)×Unit)))×Unit))×Unit))->Out Bool:=veil f41n
theorem f41nv_eq:f41nv=f41n:=by unfold f41nv;exact veil_eq f41n
def sp41nv:Spec:=⟨41,.call,(.prod (.prod (.int .i64) (.prod (.list (.prod (.int .i64) (.prod (.list (.int .i64)) .unit))) .unit)) (.prod (.prod (.int .i64) (.prod (.list (.prod (.int .i64) (.prod (.list (.int .i64)) .unit))) .unit)) .unit)),.bool,false,false,f41nv⟩
theorem c41nv:Contract Tryz.prog sp41nv:=by
 unfold sp41nv
 rw [f41nv_eq]
 exact c41n
end Go.V
namespace Go.V
open Go.Proofs
theorem tq_small {n p:Int} (hp:0<p) {B:Int} (h1 : -B<=n) (h2:n<=B) : -B<=n.tdiv p/\n.tdiv p<=B:=by
 have:=Int.natAbs_tdiv_le_natAbs n p;omega
theorem f131_at (n:Int) (h1 : -1000000<=n) (h2:n<=1000000):f131 (n,()) = .ret (Lib.itoa n):=by
 unfold f131;simp only [dT (show -9223372036854775808<=n by omega),dT (show n<=9223372036854775807 by omega),Bool.and_self,cond_true]
theorem dec_small {u:Nat} (h:u<10):Lib.decDigits u=[UInt8.ofNat (48+u)]:=by rw [Lib.decDigits,dif_pos h]
theorem dec_big {u:Nat} (h:¬ u<10):Lib.decDigits u=Lib.decDigits (u / 10)++[UInt8.ofNat (48+u % 10)]:=by rw [Lib.decDigits,dif_neg h]
theorem dec_len:∀ (k u:Nat),u<10 ^ (k+1)->(Lib.decDigits u).length<=k+1
 | 0,u,h=>by rw [dec_small (by simpa using h)];simp
 | k+1,u,h=>by
  by_cases c:u<10
  . rw [dec_small c];simp
  . rw [dec_big c,List.length_append];have:=dec_len k (u / 10) (by rw [Nat.pow_succ] at h;omega);simp;omega
theorem itoa_pos (u:Nat):Lib.itoa (u:Int)=Lib.decDigits u:=by unfold Lib.itoa;rw [if_neg (by omega)];simp
theorem itoa_neg {u:Nat} (h:1<=u):Lib.itoa (-(u:Int))=45 :: Lib.decDigits u:=by unfold Lib.itoa;rw [if_pos (by omega)];simp
theorem itoa_short {n:Int} (h1 : -1000000<n) (h2:n<1000000):(Lib.itoa n).length<=7:=by
 unfold Lib.itoa;split
 . have:=dec_len 5 n.natAbs (by omega);rw [List.length_cons];omega
 . have:=dec_len 5 n.toNat (by omega);omega
theorem byte1 {z:Int} {u:Nat} (h:z=48+(u:Int)) (hu:u<10):toBytes ([(IntKind.u8.wrap (IntKind.i64.wrap z))]:List Int)=[UInt8.ofNat (48+u)]:=by
 have e1:IntKind.i64.wrap z=z:=wr (by omega) (by omega);have e2:IntKind.u8.wrap z=z:=by
  unfold IntKind.wrap;simp only [IntKind.bits,IntKind.signed];simp;omega
 rw [e1,e2,h];show [UInt8.ofNat (48+(u:Int)).toNat]=_
 congr 2
theorem dec_rec:∀ (m u:Nat),u<10 ^ (m+1)->u<=1000000->f92r (m+1) ((u:Int),()) = .ret (Lib.decDigits u)/\(1<=u->f92r (m+1) (-(u:Int),()) = .ret (45 :: Lib.decDigits u)):=by
 intro m
 induction m with
 | zero =>
  intro u hu _;have hu':u<10:=by simpa using hu
  constructor
  . show F92 (f92r 0) fuel ((u:Int),())=_;unfold F92;simp only [dT (show (u:Int) > -10 by omega),dF (show ¬ (u:Int)<0 by omega),dT (show (u:Int)<10 by omega),byte1 (z:=48+(u:Int)) rfl hu',dec_small hu']
  . intro h1;show F92 (f92r 0) fuel (-(u:Int),())=_;unfold F92;simp only [dT (show -(u:Int) > -10 by omega),dT (show -(u:Int)<0 by omega),byte1 (z:=48 - -(u:Int)) (by omega) hu',dec_small hu'];rfl
 | succ m ih =>
  intro u hu hb;have hg:=ih (u / 10) (by rw [Nat.pow_succ] at hu;omega) (by omega);have hlen:(Lib.decDigits (u / 10)).length<=7:=Nat.le_trans (dec_len 6 (u / 10) (by omega)) (by omega)
  by_cases c:u<10
  . have q:=(fun h=>dec_small (u:=u) h) c;constructor
    . show F92 (f92r (m+1)) fuel ((u:Int),())=_;unfold F92;simp only [dT (show (u:Int) > -10 by omega),dF (show ¬ (u:Int)<0 by omega),dT (show (u:Int)<10 by omega),byte1 (z:=48+(u:Int)) rfl c,dec_small c]
    . intro h1;show F92 (f92r (m+1)) fuel (-(u:Int),())=_;unfold F92;simp only [dT (show -(u:Int) > -10 by omega),dT (show -(u:Int)<0 by omega),byte1 (z:=48 - -(u:Int)) (by omega) c,dec_small c];rfl
  . have e1:(u:Int).tdiv 10=((u / 10:Nat):Int):=by rw [Int.tdiv_eq_ediv_of_nonneg (by omega)];omega
    have e2:(u:Int).tmod 10=((u % 10:Nat):Int):=by rw [Int.tmod_eq_emod_of_nonneg (by omega)];omega
    have hs:([UInt8.ofNat (48+u % 10)]:List UInt8).length=1:=rfl;constructor
    . show F92 (f92r (m+1)) fuel ((u:Int),())=_;unfold F92;have w:IntKind.i64.wrap ((u / 10:Nat):Int)=((u / 10:Nat):Int):=wr (by omega) (by omega);simp only [dT (show (u:Int) > -10 by omega),dF (show ¬ (u:Int)<0 by omega),dF (show ¬ (u:Int)<10 by omega),e1,w,hg.1,e2,byte1 (z:=48+((u % 10:Nat):Int)) rfl (by omega)]
      rw [dec_big c,dT (by omega),cond_true]
    . intro _;show F92 (f92r (m+1)) fuel (-(u:Int),())=_;unfold F92;have e3:(-(u:Int)).tdiv 10 = -((u / 10:Nat):Int):=by rw [Int.neg_tdiv,e1]
      have e4:(-(u:Int)).tmod 10 = -((u % 10:Nat):Int):=by rw [Int.neg_tmod,e2]
      have w:IntKind.i64.wrap (-((u / 10:Nat):Int)) = -((u / 10:Nat):Int):=wr (by omega) (by omega);simp only [dF (show ¬ -(u:Int) > -10 by omega),dT (show -(u:Int)<0 by omega),e3,w,hg.2 (by omega),e4,byte1 (z:=48 - -((u % 10:Nat):Int)) (by omega) (show u % 10<10 by omega)]
      rw [dec_big c,dT (by rw [List.length_cons];omega),cond_true];rfl
theorem f92_at (n:Int) (h1 : -1000000<=n) (h2:n<=1000000):f92 (n,()) = .ret (Lib.itoa n):=by
 have hfb:=fuel_big;obtain ⟨j,hj⟩:∃ j,fuel=j+1:=⟨fuel - 1,by omega⟩
 have hp:∀ u:Nat,u<=1000000->u<10 ^ (j+1):=fun u hu=>Nat.lt_of_lt_of_le (show u<10 ^ 7 by omega) (Nat.pow_le_pow_right (by omega) (by omega))
 unfold f92;rw [hj]
 by_cases c:0<=n
 . have e:n=((n.toNat:Nat):Int):=by omega
   rw [e,itoa_pos];exact (dec_rec j n.toNat (hp _ (by omega)) (by omega)).1
 . have e:n = -((n.natAbs:Nat):Int):=by omega
   rw [e,itoa_neg (by omega)];exact (dec_rec j n.natAbs (hp _ (by omega)) (by omega)).2 (by omega)
def ckI (i:Int):Int->Int->List UInt8->Int
 | _,c,[]=>c
 | k,c,b :: bs=>ckI i (k+1) (IntKind.i64.wrap (c+(IntKind.i64.wrap ((IntKind.i64.wrap ((IntKind.i64.wrap ((b.toNat:Nat):Int)) * (IntKind.i64.wrap (k+1)))) * (IntKind.i64.wrap (i+1)))))) bs
def ckO:Int->Int->List (List UInt8)->Int
 | _,c,[]=>c
 | i,c,r :: rs=>ckO (i+1) (ckI i 0 c r) rs
theorem ckI_cons (i k c:Int) (b:UInt8) (bs:List UInt8):ckI i k c (b :: bs)=ckI i (k+1) (IntKind.i64.wrap (c+(IntKind.i64.wrap ((IntKind.i64.wrap ((IntKind.i64.wrap ((b.toNat:Nat):Int)) * (IntKind.i64.wrap (k+1)))) * (IntKind.i64.wrap (i+1)))))) bs:=rfl
def endT (c:Int):List UInt8:=[101,110,100,32]++Lib.itoa (IntKind.i64.wrap ((c.tmod 257).tdiv 100))++Lib.itoa ((IntKind.i64.wrap ((c.tmod 257).tdiv 10)).tmod 10)++Lib.itoa ((c.tmod 257).tmod 10)
def txt (rows:List (List UInt8)):List UInt8:=(rows.map (· ++ [10])).flatten++endT (ckO 0 0 rows)++[10]
theorem drop_byte {r:List UInt8} {k:Int} (h1:0<=k) (h2:k<r.length):r.drop k.toNat=List.getD r k.toNat 0 :: r.drop (k+1).toNat:=by
 have h3:k.toNat<r.length:=by omega
 have e:(k+1).toNat=k.toNat+1:=by omega
 rw [List.drop_eq_getElem_cons h3,e,List.getD_eq_getElem?_getD,List.getElem?_eq_getElem h3];rfl
theorem drop_row {rows:List (List UInt8)} {i:Int} (h1:0<=i) (h2:i<rows.length):rows.drop i.toNat=List.getD rows i.toNat ([]:List UInt8) :: rows.drop (i+1).toNat:=by
 have h3:i.toNat<rows.length:=by omega
 have e:(i+1).toNat=i.toNat+1:=by omega
 rw [List.drop_eq_getElem_cons h3,e,List.getD_eq_getElem?_getD,List.getElem?_eq_getElem h3];rfl
theorem tm_bd (n p:Int) (hp:0<p) : -p<n.tmod p/\n.tmod p<p:=by
 have a:=Int.tmod_lt_of_pos n hp;have b:=Int.tmod_lt_of_pos (-n) hp;rw [Int.neg_tmod] at b;omega
theorem parts (c:Int):(-1000000<=IntKind.i64.wrap ((c.tmod 257).tdiv 100)/\IntKind.i64.wrap ((c.tmod 257).tdiv 100)<=1000000)/\(-1000000<=(IntKind.i64.wrap ((c.tmod 257).tdiv 10)).tmod 10/\(IntKind.i64.wrap ((c.tmod 257).tdiv 10)).tmod 10<=1000000)/\(-1000000<=(c.tmod 257).tmod 10/\(c.tmod 257).tmod 10<=1000000) /\
 (Lib.itoa (IntKind.i64.wrap ((c.tmod 257).tdiv 100))).length<=7/\(Lib.itoa ((IntKind.i64.wrap ((c.tmod 257).tdiv 10)).tmod 10)).length<=7/\(Lib.itoa ((c.tmod 257).tmod 10)).length<=7:=by
 have h1:=tm_bd c 257 (by omega);have h2:=tq_small (n:=c.tmod 257) (p:=100) (by omega) (B:=257) (by omega) (by omega);have w:IntKind.i64.wrap ((c.tmod 257).tdiv 100)=(c.tmod 257).tdiv 100:=wr (by omega) (by omega);have h3:=tm_bd (IntKind.i64.wrap ((c.tmod 257).tdiv 10)) 10 (by omega)
 have h4:=tm_bd (c.tmod 257) 10 (by omega);rw [w];exact ⟨⟨by omega,by omega⟩,⟨by omega,by omega⟩,⟨by omega,by omega⟩,itoa_short (by omega) (by omega),itoa_short (by omega) (by omega),itoa_short (by omega) (by omega)⟩
theorem join_flat (e:List UInt8):∀ r:List (List UInt8),Lib.join (r++[e]) [10]=(r.map (· ++ [10])).flatten++e
 | []=>by rw [List.nil_append,Lib.join_one];rfl
 | a :: r=>by
  rw [List.cons_append,Lib.join_cons];have ih:=join_flat e r;cases r with
  | nil=>simp [Lib.joinTail]
  | cons b r =>
   rw [List.cons_append,Lib.join_cons] at ih;simp only [List.cons_append,Lib.joinTail,List.map_cons,List.flatten_cons] at ih ⊢;rw [List.append_assoc,ih];simp
def Rs (rows:List (List UInt8)):Prop:=rows.length<=1000/\∀ r∈rows,r.length<=100
theorem tflat_len:∀ rows:List (List UInt8),(∀ r∈rows,r.length<=100)->((rows.map (· ++ [10])).flatten).length<=101 * rows.length
 | [],_=>by simp
 | r :: rows,h=>by
  have:=tflat_len rows fun q hq=>h q (by simp [hq])
  have:=h r (by simp);simp only [List.map_cons,List.flatten_cons,List.length_append,List.length_cons,List.length_nil] at *;omega
theorem trow_at {rows:List (List UInt8)} (h:Rs rows) {i:Int} (h1:0<=i) (h2:i<rows.length):(List.getD rows i.toNat ([]:List UInt8)).length<=100:=by
 have h3:i.toNat<rows.length:=by omega
 have:List.getD rows i.toNat ([]:List UInt8)∈rows:=by
  rw [List.getD_eq_getElem?_getD,List.getElem?_eq_getElem h3];exact List.getElem_mem h3
 exact h.2 _ this
theorem seal_p (rows:List (List UInt8)) (h:Rs rows):∀ (m f:Nat) (i c:Int),m<f->0<=i->i+m=rows.length->L115_1 fuel f rows rows c i = .ret ((rows.map (· ++ [10])).flatten++endT (ckO i c (rows.drop i.toNat))++[10]):=by
 have hfb:=fuel_big;have fl:=tflat_len rows h.2;have hl:=h.1;intro m
 induction m with
 | zero =>
  intro f i c hf hi he;obtain ⟨f,rfl⟩:=succ_of hf;have ed:rows.drop i.toNat=[]:=List.drop_eq_nil_of_le (by omega);obtain ⟨p1,p2,p3,l1,l2,l3⟩:=parts c;rw [L115_1_succ];try delta lenI
  have lf:((rows.map (· ++ [10])).flatten++endT c).length<1000000:=by
   unfold endT;simp only [List.length_append,List.length_cons,List.length_nil];omega
  have e132:f132 (rows++[endT c],([10],())) = .ret ((rows.map (· ++ [10])).flatten++endT c):=by
   unfold f132;simp only [dT (show (rows++[endT c]).length<1000000 by simp;omega),dT lf,Bool.and_self,cond_true,join_flat]
  have e132':f132 (rows++[([101,110,100,32]++Lib.itoa (IntKind.i64.wrap ((c.tmod 257).tdiv 100))++Lib.itoa ((IntKind.i64.wrap ((c.tmod 257).tdiv 10)).tmod 10)++Lib.itoa ((c.tmod 257).tmod 10))],([10],())) = .ret ((rows.map (· ++ [10])).flatten++endT c):=e132
  have b4:((rows.map (· ++ [10])).flatten++endT c).length+([10]:List UInt8).length<1000000:=by
   unfold endT;simp only [List.length_append,List.length_cons,List.length_nil];omega
  simp only [dF (show ¬ i<(rows.length:Int) by omega),f131_at _ p1.1 p1.2,f131_at _ p2.1 p2.2,f131_at _ p3.1 p3.2,
   dT (show ([101,110,100,32]:List UInt8).length+(Lib.itoa (IntKind.i64.wrap ((c.tmod 257).tdiv 100))).length<1000000 by simp;omega),
   dT (show (([101,110,100,32]:List UInt8)++Lib.itoa (IntKind.i64.wrap ((c.tmod 257).tdiv 100))).length+(Lib.itoa ((IntKind.i64.wrap ((c.tmod 257).tdiv 10)).tmod 10)).length<1000000 by simp;omega),
   dT (show ((([101,110,100,32]:List UInt8)++Lib.itoa (IntKind.i64.wrap ((c.tmod 257).tdiv 100)))++Lib.itoa ((IntKind.i64.wrap ((c.tmod 257).tdiv 10)).tmod 10)).length+(Lib.itoa ((c.tmod 257).tmod 10)).length<1000000 by simp;omega),cond_true,
   fitsT (show rows.length+([(([101,110,100,32]:List UInt8)++Lib.itoa (IntKind.i64.wrap ((c.tmod 257).tdiv 100))++Lib.itoa ((IntKind.i64.wrap ((c.tmod 257).tdiv 10)).tmod 10)++Lib.itoa ((c.tmod 257).tmod 10))]:List (List UInt8)).length<1000000 by simp;omega),e132',dT b4,ed]
  rfl
 | succ m ih =>
  intro f i c hf hi he;obtain ⟨f,rfl⟩:=succ_of hf;have hr:=trow_at h hi (show i<rows.length by omega);have inner:∀ (d g:Nat) (c k:Int),d<g->0<=k->k+d=(List.getD rows i.toNat ([]:List UInt8)).length ->
   L115_2 fuel f g i rows rows c k=L115_1 fuel f rows rows (ckI i k c ((List.getD rows i.toNat ([]:List UInt8)).drop k.toNat)) (i+1):=by
   intro d
   induction d with
   | zero =>
    intro g c k hg hk hd;obtain ⟨g,rfl⟩:=succ_of hg;rw [L115_2_succ];try delta lenI
    have ed:(List.getD rows i.toNat ([]:List UInt8)).drop k.toNat=[]:=List.drop_eq_nil_of_le (by omega);rw [ed];simp only [dF (show ¬ k<((List.getD rows i.toNat ([]:List UInt8)).length:Int) by omega),wr (show -9223372036854775808<=i+1 by omega) (show i+1<=9223372036854775807 by omega)]
    rfl
   | succ d ihd =>
    intro g c k hg hk hd;obtain ⟨g,rfl⟩:=succ_of hg;rw [L115_2_succ];try delta lenI
    rw [drop_byte hk (show k<(List.getD rows i.toNat ([]:List UInt8)).length by omega)];simp only [dT (show k<((List.getD rows i.toNat ([]:List UInt8)).length:Int) by omega),inbT hk (show k<(List.getD rows i.toNat ([]:List UInt8)).length by omega),cond_true]
    have wk:IntKind.i64.wrap (k+1)=k+1:=wr (by omega) (by omega);rw [wk];rw [ihd g _ (k+1) (by omega) (by omega) (by omega)];rw [ckI_cons,wk];rfl
  rw [L115_1_succ];try delta lenI
  rw [drop_row hi (show i<rows.length by omega)];simp only [dT (show i<(rows.length:Int) by omega),inbT hi (show i<rows.length by omega),cond_true];rw [inner (List.getD rows i.toNat ([]:List UInt8)).length fuel c 0 (by omega) (by omega) (by omega),ih f (i+1) _ (by omega) (by omega) (by omega)]
  rfl
theorem seal_r (rows:List (List UInt8)) (h:Rs rows):∀ (m f:Nat) (i c:Int) (out:List UInt8),m<f->0<=i->i+m=rows.length->out=((rows.take i.toNat).map (· ++ [10])).flatten ->
 L93_0 fuel f (rows,(257,())) out c i = .ret ((rows.map (· ++ [10])).flatten++endT (ckO i c (rows.drop i.toNat))++[10]):=by
 have hfb:=fuel_big;have fl:=tflat_len rows h.2;have hl:=h.1;intro m
 induction m with
 | zero =>
  intro f i c out hf hi he ho;obtain ⟨f,rfl⟩:=succ_of hf;have ed:rows.drop i.toNat=[]:=List.drop_eq_nil_of_le (by omega);have et:rows.take i.toNat=rows:=List.take_of_length_le (by omega);rw [et] at ho;subst ho;obtain ⟨p1,p2,p3,l1,l2,l3⟩:=parts c
  rw [L93_0_succ];try delta lenI
  simp only [dF (show ¬ i<(rows.length:Int) by omega),nT (show (257:Int)≠0 by decide),f92_at _ p1.1 p1.2,f92_at _ p2.1 p2.2,f92_at _ p3.1 p3.2,ed,
   dT (show ((rows.map (· ++ [10])).flatten).length+([101,110,100,32]:List UInt8).length<1000000 by simp only [List.length_cons,List.length_nil];omega),
   dT (show ((rows.map (· ++ [10])).flatten++([101,110,100,32]:List UInt8)).length+(Lib.itoa (IntKind.i64.wrap ((c.tmod 257).tdiv 100))).length<1000000 by simp only [List.length_append,List.length_cons,List.length_nil];omega),
   dT (show (((rows.map (· ++ [10])).flatten++([101,110,100,32]:List UInt8))++Lib.itoa (IntKind.i64.wrap ((c.tmod 257).tdiv 100))).length+(Lib.itoa ((IntKind.i64.wrap ((c.tmod 257).tdiv 10)).tmod 10)).length<1000000 by simp only [List.length_append,List.length_cons,List.length_nil];omega),
   dT (show ((((rows.map (· ++ [10])).flatten++([101,110,100,32]:List UInt8))++Lib.itoa (IntKind.i64.wrap ((c.tmod 257).tdiv 100)))++Lib.itoa ((IntKind.i64.wrap ((c.tmod 257).tdiv 10)).tmod 10)).length+(Lib.itoa ((c.tmod 257).tmod 10)).length<1000000 by simp only [List.length_append,List.length_cons,List.length_nil];omega),
   dT (show (((((rows.map (· ++ [10])).flatten++([101,110,100,32]:List UInt8))++Lib.itoa (IntKind.i64.wrap ((c.tmod 257).tdiv 100)))++Lib.itoa ((IntKind.i64.wrap ((c.tmod 257).tdiv 10)).tmod 10))++Lib.itoa ((c.tmod 257).tmod 10)).length+([10]:List UInt8).length<1000000 by simp only [List.length_append,List.length_cons,List.length_nil];omega),cond_true]
  unfold endT ckO;simp only [List.append_assoc]
 | succ m ih =>
  intro f i c out hf hi he ho;obtain ⟨f,rfl⟩:=succ_of hf;have hi':i.toNat<rows.length:=by omega
  have hr:=trow_at h hi (show i<rows.length by omega);have eg:List.getD rows i.toNat ([]:List UInt8)=rows[i.toNat]:=by
   rw [List.getD_eq_getElem?_getD,List.getElem?_eq_getElem hi'];rfl
  have et:rows.take (i+1).toNat=rows.take i.toNat++[List.getD rows i.toNat ([]:List UInt8)]:=by
   have:(i+1).toNat=i.toNat+1:=by omega
   rw [this,List.take_succ_eq_append_getElem hi',eg]
  have ol:out.length<=101 * i.toNat:=by
   rw [ho];have:=tflat_len (rows.take i.toNat) (fun r hr=>h.2 r (List.mem_of_mem_take hr));have:(rows.take i.toNat).length=i.toNat:=by simp;omega
   omega
  have inner:∀ (d g:Nat) (c k:Int),d<g->0<=k->k+d=(List.getD rows i.toNat ([]:List UInt8)).length ->
   L93_1 fuel f g (rows,(257,())) out i c k=L93_0 fuel f (rows,(257,())) ((out++(List.getD rows i.toNat ([]:List UInt8)))++[10]) (ckI i k c ((List.getD rows i.toNat ([]:List UInt8)).drop k.toNat)) (i+1):=by
   intro d
   induction d with
   | zero =>
    intro g c k hg hk hd;obtain ⟨g,rfl⟩:=succ_of hg;rw [L93_1_succ];try delta lenI
    have ed:(List.getD rows i.toNat ([]:List UInt8)).drop k.toNat=[]:=List.drop_eq_nil_of_le (by omega);rw [ed];simp only [inbT hi (show i<rows.length by omega),dF (show ¬ k<((List.getD rows i.toNat ([]:List UInt8)).length:Int) by omega),cond_true,wr (show -9223372036854775808<=i+1 by omega) (show i+1<=9223372036854775807 by omega),
     dT (show out.length+(List.getD rows i.toNat ([]:List UInt8)).length<1000000 by omega),dT (show (out++(List.getD rows i.toNat ([]:List UInt8))).length+([10]:List UInt8).length<1000000 by simp only [List.length_append,List.length_cons,List.length_nil];omega)]
    rfl
   | succ d ihd =>
    intro g c k hg hk hd;obtain ⟨g,rfl⟩:=succ_of hg;rw [L93_1_succ];try delta lenI
    rw [drop_byte hk (show k<(List.getD rows i.toNat ([]:List UInt8)).length by omega)];simp only [inbT hi (show i<rows.length by omega),dT (show k<((List.getD rows i.toNat ([]:List UInt8)).length:Int) by omega),inbT hk (show k<(List.getD rows i.toNat ([]:List UInt8)).length by omega),cond_true]
    have wk:IntKind.i64.wrap (k+1)=k+1:=wr (by omega) (by omega);rw [wk];rw [ihd g _ (k+1) (by omega) (by omega) (by omega),ckI_cons,wk];rfl
  rw [L93_0_succ];try delta lenI
  rw [drop_row hi (show i<rows.length by omega)];simp only [dT (show i<(rows.length:Int) by omega)];rw [inner (List.getD rows i.toNat ([]:List UInt8)).length fuel c 0 (by omega) (by omega) (by omega),ih f (i+1) _ _ (by omega) (by omega) (by omega) (by rw [et,ho];simp)]
  rfl
theorem occ_one (s:List UInt8) (c:UInt8) (i:Nat):Lib.occAt s [c] i=(s[i]? == some c):=by
 unfold Lib.occAt;cases h:s.drop i with
 | nil =>
  have:s.length<=i:=by simpa using List.drop_eq_nil_iff.1 h
  rw [List.getElem?_eq_none this];rfl
 | cons a l =>
  have hi:i<s.length:=by
   refine Nat.not_le.1 fun hle=>?_
   rw [List.drop_eq_nil_of_le hle] at h;cases h
  rw [List.drop_eq_getElem_cons hi] at h;injection h with h1 h2;rw [List.getElem?_eq_getElem hi,h1];show ((c==a) && _)=_;simp only [List.isPrefixOf,Bool.and_true];rw [Bool.eq_iff_iff,beq_iff_eq,beq_iff_eq];exact ⟨fun h=>by rw [h],fun h=>(Option.some.inj h).symm⟩
theorem index_hit1 {a b:List UInt8} {c:UInt8} (h:c ∉ a):Lib.index (a++c :: b) [c]=a.length:=by
 refine Lib.index_first (by simp) ?_ fun j hj=>?_
 . rw [occ_one];simp
 . rw [occ_one,List.getElem?_append_left hj];rw [List.getElem?_eq_getElem hj];have:a[j]≠c:=fun e=>h (e ▸ List.getElem_mem hj)
   simp [this]
theorem index_miss1 {a:List UInt8} {c:UInt8} (h:c ∉ a):Lib.index a [c] = -1:=by
 refine Lib.index_none fun j hj=>?_
 rw [occ_one];cases hh:a[j]? with
 | none=>rfl
 | some b =>
  have:b∈a:=List.mem_of_getElem? hh;have hb:b≠c:=fun e=>h (e ▸ this)
  simp [hb]
theorem split_last {a:List UInt8} {c:UInt8} (h:c ∉ a):Lib.split a [c]=[a]:=by
 unfold Lib.split;rw [Lib.count_miss (index_miss1 h)];rfl
theorem split_cons {a b:List UInt8} {c:UInt8} (h:c ∉ a):Lib.split (a++c :: b) [c]=a :: Lib.split b [c]:=by
 unfold Lib.split;have hi:=index_hit1 (b:=b) h;have ed:(a++c :: b).drop (a.length+1)=b:=by simp
 rw [Lib.count_hit (by simp) hi];have e1:([c]:List UInt8).length=1:=rfl;rw [e1,ed,Nat.add_comm 1];show (if Lib.index (a++c :: b) [c] == -1 then _ else _)=_;have ne:((a.length:Int) == -1)=false:=eF (by omega);rw [hi,ne];simp only [Bool.false_eq_true,if_false,Int.toNat_natCast,Nat.add_zero,e1,ed]
 rw [List.take_left]
theorem f112_at (s:List UInt8) (c:UInt8) (h:s.length<1000000):f112 (s,([c],())) = .ret (Lib.split s [c]):=by
 have e:=Lib.splitB_all ⟨⟨[c]⟩⟩ (Nat.le_refl 1) 0 (Lib.countB ⟨⟨s⟩⟩ ⟨⟨[c]⟩⟩) ⟨⟨s⟩⟩ rfl;unfold f112 splitL;simp only [dT h,dT (show 1<=([c]:List UInt8).length by simp),dT e,Bool.and_self,cond_true];rw [Lib.splitB_data];rfl
theorem split_rows (c:UInt8) (e:List UInt8) (he:c ∉ e):∀ rows:List (List UInt8),(∀ r∈rows,c ∉ r)->Lib.split ((rows.map (· ++ [c])).flatten++e++[c]) [c]=rows++[e,[]]
 | [],_=>by
  have:=split_cons (b:=[]) he;rw [split_last (a:=[]) (show c ∉ ([]:List UInt8) by simp)] at this
  simpa using this
 | r :: rows,h=>by
  have ih:=split_rows c e he rows fun q hq=>h q (by simp [hq])
  have e1:(((r :: rows).map (· ++ [c])).flatten++e++[c])=r++c :: ((rows.map (· ++ [c])).flatten++e++[c]):=by simp
  rw [e1,split_cons (h r (by simp)),ih];rfl
def fd:Int->List UInt8->Int
 | n,[]=>n
 | n,b :: bs=>fd (10 * n+(((b.toNat:Nat):Int) - 48)) bs
theorem fd_app (b:UInt8):∀ (l:List UInt8) (n:Int),fd n (l++[b])=10 * fd n l+(((b.toNat:Nat):Int) - 48)
 | [],_=>rfl
 | a :: l,n=>by rw [List.cons_append];exact fd_app b l _
theorem digit_nat {d:Nat} (h:d<10):(UInt8.ofNat (48+d)).toNat=48+d:=by
 rw [UInt8.toNat_ofNat'];omega
theorem dec_digits:∀ (k u:Nat),u<=k->(∀ b∈Lib.decDigits u,48<=b.toNat/\b.toNat<=57)/\fd 0 (Lib.decDigits u)=u/\Lib.decDigits u≠[]:=by
 intro k
 induction k with
 | zero =>
  intro u hu;have:u=0:=by omega
  subst this;rw [dec_small (by omega)];exact ⟨fun b hb=>by rw [List.mem_singleton.1 hb];decide,rfl,by simp⟩
 | succ k ih =>
  intro u hu
  by_cases c:u<10
  . rw [dec_small c];refine ⟨fun b hb=>?_,?_,by simp⟩
    . rw [List.mem_singleton.1 hb,digit_nat c];omega
    . unfold fd fd;rw [digit_nat c];omega
  . obtain ⟨h1,h2,h3⟩:=ih (u / 10) (by omega);rw [dec_big c];refine ⟨fun b hb=>?_,?_,by simp⟩
    . rcases List.mem_append.1 hb with hb|hb
      . exact h1 b hb
      . rw [List.mem_singleton.1 hb,digit_nat (by omega)];omega
    . rw [fd_app,h2,digit_nat (by omega)];omega
theorem itoa_bytes (n:Int):∀ b∈Lib.itoa n,b=45\/(48<=b.toNat/\b.toNat<=57):=by
 intro b hb;unfold Lib.itoa at hb;split at hb
 . rcases List.mem_cons.1 hb with rfl|hb
   . exact .inl rfl
   . exact .inr ((dec_digits _ _ (Nat.le_refl _)).1 b hb)
 . exact .inr ((dec_digits _ _ (Nat.le_refl _)).1 b hb)
theorem itoa_no {n:Int} {c:UInt8} (h:c=32\/c=10):c ∉ Lib.itoa n:=by
 intro hc;rcases itoa_bytes n c hc with e|e
 . subst e;rcases h with h|h<;>cases h
 . rcases h with rfl|rfl<;>simp at e
theorem rune_at {w:List UInt8} {p:Nat} (h:p<w.length) (ha:(w.getD p 0).toNat<128):runeAt w p=(((w.getD p 0).toNat:Nat):Int)/\posAt w p=p+1:=by
 have e:w.getD p 0=w[p]:=by rw [List.getD_eq_getElem?_getD,List.getElem?_eq_getElem h];rfl
 have hs:p<(⟨⟨w⟩⟩:ByteArray).size:=h;have hd:=decode_ascii ⟨⟨w⟩⟩ p hs (by show (w[p]).toNat<128;rw [<- e];exact ha);have hd':Utf8.decode ⟨⟨w⟩⟩ p=((w[p]).toNat,1):=hd;unfold runeAt posAt;rw [hd',dT h,e];exact ⟨rfl,rfl⟩
theorem wr32 {x:Int} (h1 : -2147483648<=x) (h2:x<=2147483647):IntKind.i32.wrap x=x:=by
 unfold IntKind.wrap;simp only [IntKind.bits,IntKind.signed];simp;split<;>omega
theorem need_true (s:List UInt8):f113 (true,(s,())) = .ret ():=rfl
theorem end_nl (c:Int):(10:UInt8) ∉ endT c:=by
 unfold endT;intro h;rcases List.mem_append.1 h with h|h
 . rcases List.mem_append.1 h with h|h
   . rcases List.mem_append.1 h with h|h
     . revert h;decide
     . exact itoa_no (.inr rfl) h
   . exact itoa_no (.inr rfl) h
 . exact itoa_no (.inr rfl) h
end Go.V
namespace Go.V
open Go.Proofs
def digB (n:Int):UInt8:=UInt8.ofNat (48+n.toNat)
def figB (f:Int):UInt8:=if f = -1 then 63 else digB f
def figsT (l:List Int):List UInt8:=l.map figB
def headT (n:Int):List UInt8:=[99,111,112,105,101,115]++32 :: [digB n]
def rowC (c:NODE):List UInt8:=[99,111,112,121]++32 :: (digB c.1 :: 32 :: figsT c.2.1)
def rowsC (t:TREE):List (List UInt8):=headT t.1 :: t.2.1.map rowC
def FigIn (f:Int):Prop:=f = -1\/(0<=f/\f<=9)
theorem digB_nat {n:Int} (h0:0<=n) (h9:n<=9):(digB n).toNat=48+n.toNat:=digit_nat (by omega)
theorem itoa_dig {n:Int} (h0:0<=n) (h9:n<=9):Lib.itoa n=[digB n]:=by
 have e:n=((n.toNat:Nat):Int):=by omega
 rw [e,itoa_pos,dec_small (by omega)];unfold digB;rw [Int.toNat_natCast]
theorem figsT_len (l:List Int):(figsT l).length=l.length:=by unfold figsT;simp
theorem figsT_at {l:List Int} {p:Nat} (h:p<l.length):(figsT l).getD p 0=figB (l.getD p 0):=by
 unfold figsT;simp [List.getD_eq_getElem?_getD,List.getElem?_map,List.getElem?_eq_getElem h]
theorem figB_no {f:Int} (h:FigIn f):(figB f).toNat=63\/(48<=(figB f).toNat/\(figB f).toNat<=57):=by
 unfold figB;split
 . exact .inl rfl
 . rcases h with h|h
   . contradiction
   . rw [digB_nat h.1 h.2];omega
theorem fig_ne {f:Int} (h:FigIn f) {c:UInt8} (hc:c=32\/c=10):c≠figB f:=by
 rintro rfl;have:=figB_no h;rcases hc with e|e<;>rw [e] at this<;>simp at this
theorem digB_fig {n:Int} (h0:0<=n):digB n=figB n:=by unfold figB;rw [if_neg (by omega)]
theorem figs_no {l:List Int} (h:∀ x∈l,FigIn x) {c:UInt8} (hc:c=32\/c=10):c ∉ figsT l:=fun hm=>by
 obtain ⟨x,hx,e⟩:=List.mem_map.1 hm;exact fig_ne (h x hx) hc e.symm
structure RowIn (c:NODE):Prop where
 par:0<=c.1/\c.1<=9
 len:1<=c.2.1.length/\c.2.1.length<=3
 fig:∀ x∈c.2.1,FigIn x
theorem row_of {t:TREE} (ht:TreeOK t) {k:Nat} (hk:k<t.2.1.length):RowIn (t.2.1.getD k NODE0) where
 par:=by
  have h:=(ht.node k hk).par;have e:(nodeAt t k).1=(t.2.1.getD k NODE0).1:=rfl;have hc:=ht.copies;rw [e] at h;split at h<;>omega
 len:=by
  have h:=(ht.node k hk).len;have e:(nodeAt t k).2.1=(t.2.1.getD k NODE0).2.1:=rfl;have hP:=ht.places;rw [e] at h;omega
 fig x hx:=by
  have h:=(ht.node k hk).fig;obtain ⟨p,hp,rfl⟩:=mem_getD hx;exact h p hp
theorem row_mem {t:TREE} (ht:TreeOK t):∀ c∈t.2.1,RowIn c:=fun c hc=>by
 obtain ⟨i,hi,e⟩:=List.mem_iff_getElem.1 hc;have h:=row_of ht hi;rw [List.getD_eq_getElem?_getD,List.getElem?_eq_getElem hi] at h;rw [<- e];exact h
theorem rowC_len {c:NODE} (h:RowIn c):(rowC c).length<=10:=by
 have:=h.len;unfold rowC;simp only [List.length_append,List.length_cons,List.length_nil,figsT_len];omega
theorem rowsC_rs {t:TREE} (ht:TreeOK t):Rs (rowsC t):=by
 have hc:=ht.copies;refine ⟨by unfold rowsC;simp;omega,fun r hr=>?_⟩;rcases List.mem_cons.1 hr with rfl|hr
 . unfold headT;simp
 . obtain ⟨c,h1,rfl⟩:=List.mem_map.1 hr;have:=rowC_len (row_mem ht c h1);omega
theorem f130a_at {n:Int} (h0:0<=n) (h9:n<=9):f130a (n,()) = .ret (headT n):=by
 have hfb:=fuel_big;obtain ⟨j,hj⟩:∃ j,fuel=j+1+1:=⟨fuel - 2,by omega⟩
 unfold f130a F130a;have key:∀ N j:Nat,L130a_0 N (j+1+1) (n,()) [99,111,112,105,101,115] [n] 0 = .ret (headT n):=by
  intro N j;rw [L130a_0_succ];try delta lenI
  simp only [show (([n]:List Int).length:Int)=1 from rfl,dT (show (0:Int)<1 by decide),show inb 0 ([n]:List Int).length=true from rfl,show List.getD [n] (0:Int).toNat 0=n from rfl,cond_true,f131_at n (by omega) (by omega),itoa_dig h0 h9,dT (show ([32]:List UInt8).length+[digB n].length<1000000 by simp),dT (show ([99,111,112,105,101,115]:List UInt8).length+(([32]:List UInt8)++[digB n]).length<1000000 by simp),show IntKind.i64.wrap (0+1)=1 from rfl]
  rw [L130a_0_succ];try delta lenI
  simp only [show (([n]:List Int).length:Int)=1 from rfl,dF (show ¬ (1:Int)<1 by decide),dT (show (([99,111,112,105,101,115]:List UInt8)++(([32]:List UInt8)++[digB n])).length+([]:List UInt8).length<1000000 by simp),cond_true]
  rfl
 have:=key fuel j;rw [<- hj] at this;exact this
theorem f130b_at {c:NODE} (h:RowIn c):f130b (((c.1,(c.2.1,())),()),()) = .ret (rowC c):=by
 have hfb:=fuel_big;obtain ⟨j,hj⟩:∃ j,fuel=j+1+1:=⟨fuel - 2,by omega⟩
 have hlen:=h.len;unfold f130b F130b;have tail:∀ N j:Nat,L130b_1 N (j+1+1) (32 :: figsT c.2.1) (((c.1,(c.2.1,())),()),()) [99,111,112,121] [c.1] 0 = .ret (rowC c):=by
  intro N j;rw [L130b_1_succ];try delta lenI
  simp only [show (([c.1]:List Int).length:Int)=1 from rfl,dT (show (0:Int)<1 by decide),show inb 0 ([c.1]:List Int).length=true from rfl,show List.getD [c.1] (0:Int).toNat 0=c.1 from rfl,cond_true,f131_at c.1 (by have:=h.par;omega) (by have:=h.par;omega),itoa_dig h.par.1 h.par.2,dT (show ([32]:List UInt8).length+[digB c.1].length<1000000 by simp),dT (show ([99,111,112,121]:List UInt8).length+(([32]:List UInt8)++[digB c.1]).length<1000000 by simp),show IntKind.i64.wrap (0+1)=1 from rfl]
  rw [L130b_1_succ];try delta lenI
  simp only [show (([c.1]:List Int).length:Int)=1 from rfl,dF (show ¬ (1:Int)<1 by decide),dT (show (([99,111,112,121]:List UInt8)++(([32]:List UInt8)++[digB c.1])).length+(32 :: figsT c.2.1).length<1000000 by simp only [List.length_append,List.length_cons,List.length_nil,figsT_len];omega),cond_true]
  rfl
 have key:=runL (L:=fun n i=>L130b_0 fuel n (((c.1,(c.2.1,())),()),()) (32 :: figsT (c.2.1.take i)) i) (len:=c.2.1.length) (K:=.ret (rowC c)) (fun n i hi=>?_) (fun n=>?_) c.2.1.length fuel 0 (by omega) (by omega)
 . exact key
 . try dsimp only
   rw [L130b_0_succ]
   try delta lenI
   have hf:=h.fig _ (getD_mem (z:=(0:Int)) hi);have es:figsT (c.2.1.take (i+1))=figsT (c.2.1.take i)++[figB (c.2.1.getD i 0)]:=by unfold figsT;rw [take_snoc 0 hi,List.map_append];rfl
   have el:(32 :: figsT (c.2.1.take i)).length<=4:=by rw [List.length_cons,figsT_len,List.length_take];omega
   rw [es];simp only [dT (show (i:Int)<c.2.1.length by omega),inbT (show (0:Int)<=i by omega) (show (i:Int)<c.2.1.length by omega),cond_true,Int.toNat_natCast,wn (show i<1000000000 by omega)];rcases hf with e|e
   . simp only [eT e,dT (show (32 :: figsT (c.2.1.take i)).length+([63]:List UInt8).length<1000000 by simp only [List.length_cons,List.length_nil] at el ⊢;omega),cond_true];rw [e];rfl
   . simp only [eF (show c.2.1.getD i 0 ≠ -1 by omega),f131_at (c.2.1.getD i 0) (by omega) (by omega),itoa_dig e.1 e.2,dT (show (32 :: figsT (c.2.1.take i)).length+[digB (c.2.1.getD i 0)].length<1000000 by simp only [List.length_cons,List.length_nil] at el ⊢;omega),cond_true]
     rw [digB_fig e.1];rfl
 . try dsimp only
   rw [L130b_0_succ]
   try delta lenI
   simp only [dF (show ¬ ((c.2.1.length:Nat):Int)<c.2.1.length by omega),List.take_length];have:=tail fuel j;rw [<- hj] at this;exact this
theorem f115_at {t:TREE} (ht:TreeOK t):f115 (t,()) = .ret (txt (rowsC t)):=by
 have hfb:=fuel_big;have hc:=ht.copies;have hP:=ht.places;have rs:=rowsC_rs ht;unfold f115 F115;simp only [f130a_at (show 0<=t.1 by omega) (show t.1<=9 by omega)];have key:=runL (L:=fun n k=>L115_0 fuel n (t,()) (headT t.1 :: (t.2.1.take k).map rowC) k) (len:=t.2.1.length) (K:=.ret (txt (rowsC t))) (fun n k hk=>?_) (fun n=>?_) t.2.1.length fuel 0 (by omega) (by omega)
 . exact key
 . try dsimp only
   rw [L115_0_succ]
   try delta lenI
   have eb:f130b ((((t.2.1.getD k NODE0).1,((t.2.1.getD k NODE0).2.1,())),()),()) = .ret (rowC (t.2.1.getD k NODE0)):=f130b_at (row_of ht hk);have el:(headT t.1 :: (t.2.1.take k).map rowC).length<=9:=by rw [List.length_cons,List.length_map,List.length_take];omega
   have es:headT t.1 :: (t.2.1.take (k+1)).map rowC=(headT t.1 :: (t.2.1.take k).map rowC)++[rowC (t.2.1.getD k NODE0)]:=by rw [take_snoc NODE0 hk,List.map_append];rfl
   rw [es];simp only [dT (show (k:Int)<t.2.1.length by omega),inbT (show (0:Int)<=k by omega) (show (k:Int)<t.2.1.length by omega),cond_true,Int.toNat_natCast,wn (show k<1000000000 by omega),eb,fitsT (xs:=headT t.1 :: (t.2.1.take k).map rowC) (ys:=[rowC (t.2.1.getD k NODE0)]) (by simp only [List.length_cons,List.length_nil] at el ⊢;omega)]
 . try dsimp only
   rw [L115_0_succ]
   try delta lenI
   simp only [dF (show ¬ ((t.2.1.length:Nat):Int)<t.2.1.length by omega),List.take_length];exact seal_p (rowsC t) rs (rowsC t).length fuel 0 0 (by have:=rs.1;omega) (by omega) (by omega)
theorem f91_at {w:List UInt8} (hw:w.length<=10) {n:Int} (h0:0<=n) (h9:n<=9):f91 (w,([n],())) = .ret (w++[32]++[digB n]):=by
 have hfb:=fuel_big;obtain ⟨j,hj⟩:∃ j,fuel=j+1+1:=⟨fuel - 2,by omega⟩
 unfold f91 F91;have key:∀ N j:Nat,L91_0 N (j+1+1) (w,([n],())) w 0 = .ret (w++[32]++[digB n]):=by
  intro N j;rw [L91_0_succ];try delta lenI
  simp only [show (([n]:List Int).length:Int)=1 from rfl,dT (show (0:Int)<1 by decide),show inb 0 ([n]:List Int).length=true from rfl,show List.getD [n] (0:Int).toNat 0=n from rfl,cond_true,f92_at n (by omega) (by omega),itoa_dig h0 h9,dT (show w.length+([32]:List UInt8).length<1000000 by simp;omega),dT (show (w++([32]:List UInt8)).length+[digB n].length<1000000 by simp;omega),show IntKind.i64.wrap (0+1)=1 from rfl]
  rw [L91_0_succ];try delta lenI
  simp only [show (([n]:List Int).length:Int)=1 from rfl,dF (show ¬ (1:Int)<1 by decide)]
 have:=key fuel j;rw [<- hj] at this;exact this
theorem f54_at {t:TREE} (ht:TreeOK t):f54 (t,()) = .ret (txt (rowsC t)):=by
 have hfb:=fuel_big;have hc:=ht.copies;have hP:=ht.places;have rs:=rowsC_rs ht;have e93:f93 (rowsC t,(257,())) = .ret (txt (rowsC t)):=seal_r (rowsC t) rs (rowsC t).length fuel 0 0 [] (by have:=rs.1;omega) (by omega) (by omega) rfl
 have eh:[99,111,112,105,101,115]++[32]++[digB t.1]=headT t.1:=rfl;unfold f54 F54;simp only [f91_at (w:=[99,111,112,105,101,115]) (by simp) (show 0<=t.1 by omega) (show t.1<=9 by omega),eh];have key:=runL (L:=fun n k=>L54_0 fuel n (t,()) (headT t.1 :: (t.2.1.take k).map rowC) k) (len:=t.2.1.length) (K:=.ret (txt (rowsC t))) (fun n k hk=>?_) (fun n=>?_) t.2.1.length fuel 0 (by omega) (by omega)
 . exact key
 . try dsimp only
   rw [L54_0_succ]
   try delta lenI
   have hr:=row_of ht hk;have el:(headT t.1 :: (t.2.1.take k).map rowC).length<=9:=by rw [List.length_cons,List.length_map,List.length_take];omega
   have es:headT t.1 :: (t.2.1.take (k+1)).map rowC=(headT t.1 :: (t.2.1.take k).map rowC)++[rowC (t.2.1.getD k NODE0)]:=by rw [take_snoc NODE0 hk,List.map_append];rfl
   rw [es];simp only [dT (show (k:Int)<t.2.1.length by omega),inbT (show (0:Int)<=k by omega) (show (k:Int)<t.2.1.length by omega),cond_true,Int.toNat_natCast,wn (show k<1000000000 by omega),f91_at (w:=[99,111,112,121]) (by simp) hr.par.1 hr.par.2,dT (show ([99,111,112,121]++[32]++[digB (t.2.1.getD k NODE0).1]:List UInt8).length+([32]:List UInt8).length<1000000 by simp)]
   generalize hcc:t.2.1.getD k NODE0=c at *;generalize headT t.1 :: (t.2.1.take k).map rowC=rows at *;have hlen:=hr.len;have inner:=runL (L:=fun n1 p=>L54_1 fuel n n1 (t,()) k rows (([99,111,112,121]++[32]++[digB c.1]++[32])++figsT (c.2.1.take p)) p) (len:=c.2.1.length) (K:=L54_0 fuel n (t,()) (rows++[rowC c]) ((k+1:Nat):Int)) (fun n1 p hp=>?_) (fun n1=>?_) c.2.1.length fuel 0 (by omega) (by omega)
   . exact inner
   . try dsimp only
     rw [L54_1_succ]
     try delta lenI
     have hf:=hr.fig _ (getD_mem (z:=(0:Int)) hp);have es2:figsT (c.2.1.take (p+1))=figsT (c.2.1.take p)++[figB (c.2.1.getD p 0)]:=by unfold figsT;rw [take_snoc 0 hp,List.map_append];rfl
     have el2:(([99,111,112,121]++[32]++[digB c.1]++[32])++figsT (c.2.1.take p):List UInt8).length<=10:=by simp only [List.length_append,List.length_cons,List.length_nil,figsT_len,List.length_take];omega
     rw [es2,<- List.append_assoc];simp only [Int.toNat_natCast,hcc,inbT (show (0:Int)<=k by omega) (show (k:Int)<t.2.1.length by omega),cond_true,dT (show (p:Int)<c.2.1.length by omega),inbT (show (0:Int)<=p by omega) (show (p:Int)<c.2.1.length by omega),wn (show p<1000000000 by omega)]
     generalize ([99,111,112,121]++[32]++[digB c.1]++[32])++figsT (c.2.1.take p)=s at *;rcases hf with e|e
     . simp only [dT (show c.2.1.getD p 0<0 by omega),dT (show s.length+([63]:List UInt8).length<1000000 by simp only [List.length_cons,List.length_nil];omega),cond_true];rw [e];rfl
     . simp only [dF (show ¬ c.2.1.getD p 0<0 by omega),f92_at (c.2.1.getD p 0) (by omega) (by omega),itoa_dig e.1 e.2,dT (show s.length+[digB (c.2.1.getD p 0)].length<1000000 by simp only [List.length_cons,List.length_nil];omega),cond_true]
       rw [digB_fig e.1]
   . try dsimp only
     rw [L54_1_succ]
     try delta lenI
     simp only [Int.toNat_natCast,hcc,inbT (show (0:Int)<=k by omega) (show (k:Int)<t.2.1.length by omega),cond_true,dF (show ¬ ((c.2.1.length:Nat):Int)<c.2.1.length by omega),List.take_length,wn (show k<1000000000 by omega)]
     have er:([99,111,112,121]++[32]++[digB c.1]++[32])++figsT c.2.1=rowC c:=rfl;rw [er,fitsT (xs:=rows) (ys:=[rowC c]) (by simp only [List.length_cons,List.length_nil];omega)];rfl
 . try dsimp only
   rw [L54_0_succ]
   try delta lenI
   have er:headT t.1 :: t.2.1.map rowC=rowsC t:=rfl;simp only [dF (show ¬ ((t.2.1.length:Nat):Int)<t.2.1.length by omega),List.take_length,er,e93]
end Go.V
namespace Go.V
open Go.Proofs
theorem f114_at {l:List Int} {b:Bool} (hl:1<=l.length/\l.length<=3) (h:∀ x∈l,(b=true/\x = -1)\/(0<=x/\x<=9)):f114 (figsT l,(b,())) = .ret l:=by
 have hfb:=fuel_big;have hw:=figsT_len l;have hne:(figsT l != ([]:List UInt8))=true:=by
  rw [bne_iff_ne];intro e;rw [e] at hw;simp at hw;omega
 unfold f114 F114;simp only [hne,need_true];have key:=runL (L:=fun n p=>L114_0 fuel n (figsT l,(b,())) (l.take p) p) (len:=l.length) (K:=.ret l) (fun n p hp=>?_) (fun n=>?_) l.length fuel 0 (by omega) (by omega)
 . exact key
 . try dsimp only
   rw [L114_0_succ]
   try delta lenI
   have hx:=h _ (getD_mem (z:=(0:Int)) hp);have ht:(l.take p).length<=3:=by rw [List.length_take];omega
   rw [take_snoc 0 hp];generalize hxx:l.getD p 0=x at *;have hb:(figsT l).getD p 0=figB x:=by rw [figsT_at hp,hxx]
   have hn:=figB_no (f:=x) (by rcases hx with h|h;exact .inl h.2;exact .inr h);obtain ⟨r1,r2⟩:=rune_at (w:=figsT l) (p:=p) (by omega) (by rw [hb];omega);rw [hb] at r1;simp only [dT (show p<(figsT l).length by omega),cond_true,r1,r2]
   rcases hx with ⟨e1,e2⟩|e
   . subst e1;subst e2;have e3:(((figB (-1)).toNat:Nat):Int)=63:=rfl;simp only [e3,eT (show (63:Int)=63 from rfl),fitsT (xs:=l.take p) (ys:=[(-1:Int)]) (by simp only [List.length_cons,List.length_nil];omega),cond_true]
   . have e3:(((figB x).toNat:Nat):Int)=48+x:=by rw [<- digB_fig e.1,digB_nat e.1 e.2];omega
     have w1:IntKind.i32.wrap ((48+x) - 48)=x:=by rw [wr32 (by omega) (by omega)];omega
     have w2:IntKind.i64.wrap x=x:=wr (by omega) (by omega);cases b<;>simp only [e3,eF (show 48+x≠63 by omega),dT (show 48+x >= 48 by omega),dT (show 48+x<=57 by omega),need_true,w1,w2,fitsT (xs:=l.take p) (ys:=[x]) (by simp only [List.length_cons,List.length_nil];omega),cond_true]
 . try dsimp only
   rw [L114_0_succ]
   try delta lenI
   simp only [dF (show ¬ l.length<(figsT l).length by omega),List.take_length]
theorem head_split {n:Int} (h0:0<=n) (h9:n<=9):Lib.split (headT n) [32]=[[99,111,112,105,101,115],[digB n]]:=by
 unfold headT;rw [split_cons (by decide),split_last (fun h=>by
  rw [digB_fig h0] at h;exact fig_ne (.inr ⟨h0,h9⟩) (.inl rfl) (List.mem_singleton.1 h))]
theorem row_split {c:NODE} (h:RowIn c):Lib.split (rowC c) [32]=[[99,111,112,121],[digB c.1],figsT c.2.1]:=by
 unfold rowC;rw [split_cons (by decide),show digB c.1 :: 32 :: figsT c.2.1=[digB c.1]++32 :: figsT c.2.1 from rfl,split_cons (fun h2=>by
  rw [digB_fig h.par.1] at h2;exact fig_ne (.inr h.par) (.inl rfl) (List.mem_singleton.1 h2)),split_last (figs_no h.fig (.inl rfl))]
theorem head_nl {n:Int} (h0:0<=n) (h9:n<=9):(10:UInt8) ∉ headT n:=by
 unfold headT;intro h;rcases List.mem_append.1 h with h|h
 . revert h;decide
 . rcases List.mem_cons.1 h with h|h
   . cases h
   . rw [digB_fig h0] at h;exact fig_ne (.inr ⟨h0,h9⟩) (.inr rfl) (List.mem_singleton.1 h)
theorem row_nl {c:NODE} (hr:RowIn c):(10:UInt8) ∉ rowC c:=by
 unfold rowC;intro h;rcases List.mem_append.1 h with h|h
 . revert h;decide
 . rcases List.mem_cons.1 h with h|h
   . cases h
   . rcases List.mem_cons.1 h with h|h
     . rw [digB_fig hr.par.1] at h;exact fig_ne (.inr hr.par) (.inr rfl) h
     . rcases List.mem_cons.1 h with h|h
       . cases h
       . exact figs_no hr.fig (.inr rfl) h
theorem txt_split {t:TREE} (ht:TreeOK t):Lib.split (txt (rowsC t)) [10]=rowsC t++[endT (ckO 0 0 (rowsC t)),[]]:=by
 refine split_rows 10 _ (end_nl _) (rowsC t) fun r hr=>?_
 have hP:=ht.places;rcases List.mem_cons.1 hr with rfl|hr
 . exact head_nl (by omega) (by omega)
 . obtain ⟨c,hc,rfl⟩:=List.mem_map.1 hr;exact row_nl (row_mem ht c hc)
theorem flat_ten:∀ rows:List (List UInt8),(∀ r∈rows,r.length<=10)->((rows.map (· ++ [10])).flatten).length<=11 * rows.length
 | [],_=>by simp
 | r :: rows,h=>by
  have:=flat_ten rows fun q hq=>h q (by simp [hq])
  have:=h r (by simp);simp only [List.map_cons,List.flatten_cons,List.length_append,List.length_cons,List.length_nil] at *;omega
theorem itoa_two {n:Int} (h1 : -9<=n) (h2:n<=9):(Lib.itoa n).length<=2:=by
 unfold Lib.itoa;split
 . have:=dec_len 0 n.natAbs (by omega);rw [List.length_cons];omega
 . have:=dec_len 0 n.toNat (by omega);omega
theorem end_len (c:Int):(endT c).length<=10:=by
 have h1:=tm_bd c 257 (by omega);have h4:=tm_bd (c.tmod 257) 10 (by omega);have h5:=tm_bd (IntKind.i64.wrap ((c.tmod 257).tdiv 10)) 10 (by omega);have h6:=Int.tdiv_mul_add_tmod (c.tmod 257) 100;have h7:=tm_bd (c.tmod 257) 100 (by omega)
 have w:IntKind.i64.wrap ((c.tmod 257).tdiv 100)=(c.tmod 257).tdiv 100:=wr (by omega) (by omega);have a1:=itoa_two (n:=(c.tmod 257).tdiv 100) (by omega) (by omega);have a2:=itoa_two (n:=(IntKind.i64.wrap ((c.tmod 257).tdiv 10)).tmod 10) (by omega) (by omega)
 have a3:=itoa_two (n:=(c.tmod 257).tmod 10) (by omega) (by omega);unfold endT;rw [w];simp only [List.length_append,List.length_cons,List.length_nil];omega
theorem txt_len {t:TREE} (ht:TreeOK t):(txt (rowsC t)).length<=115:=by
 have hc:=ht.copies;have h1:=flat_ten (rowsC t) fun r hr=>by
  rcases List.mem_cons.1 hr with rfl|hr
  . unfold headT;simp
  . obtain ⟨c,h1,rfl⟩:=List.mem_map.1 hr;exact rowC_len (row_mem ht c h1)
 have h2:=end_len (ckO 0 0 (rowsC t));have h3:(rowsC t).length=t.2.1.length+1:=by unfold rowsC;simp
 unfold txt;simp only [List.length_append,List.length_cons,List.length_nil];omega
theorem f90_at {t:TREE} (ht:TreeOK t):f90 (txt (rowsC t),()) = .ret t:=by
 have hfb:=fuel_big;have hc:=ht.copies;have hP:=ht.places;have tlen:=txt_len ht;have es:=f112_at (txt (rowsC t)) 10 (by omega);rw [txt_split ht] at es;generalize hR:rowsC t++[endT (ckO 0 0 (rowsC t)),[]]=R at es;have Rl:(R.length:Int)=t.2.1.length+3:=by rw [<- hR];unfold rowsC;simp;omega
 have R0:List.getD R (0:Int).toNat ([]:List UInt8)=headT t.1:=by rw [<- hR];rfl
 have wl:IntKind.i64.wrap ((R.length:Int) - 2)=t.2.1.length+1:=by rw [wr (by omega) (by omega)];omega
 have hcut:cut R (1:Int) ((t.2.1.length:Int)+1)=t.2.1.map rowC:=by
  rw [<- hR];unfold cut rowsC;have e1:((t.2.1.length:Int)+1).toNat - (1:Int).toNat=t.2.1.length:=by omega
  rw [e1];show ((t.2.1.map rowC)++[endT _,[]]).take t.2.1.length=_;rw [List.take_left' (by simp)]
 have hcok:cutOk (1:Int) ((t.2.1.length:Int)+1) (R.length:Int)=true:=by
  unfold cutOk;simp only [dT (show (0:Int)<=1 by omega),dT (show (1:Int)<=(t.2.1.length:Int)+1 by omega),dT (show (t.2.1.length:Int)+1<=R.length by omega),Bool.and_self]
 have e0:=f112_at (headT t.1) 32 (by unfold headT;simp);rw [head_split (by omega) (by omega)] at e0;have ml:(t.2.1.map rowC).length=t.2.1.length:=by simp
 have g1:f114 ([digB t.1],(false,())) = .ret [t.1]:=by
  have:=f114_at (l:=[t.1]) (b:=false) (by simp) fun x hx=>.inr (by rw [List.mem_singleton.1 hx];omega)
  rwa [show figsT [t.1]=[digB t.1] by rw [digB_fig (by omega)];rfl] at this
 have key:=runL (L:=fun n k=>L90_0 fuel n (txt (rowsC t),()) R 0 [] t.1 (t.2.1.take k) k) (len:=t.2.1.length) (K:=.ret t) (fun n k hk=>?_) (fun n=>?_) t.2.1.length fuel 0 (by omega) (by omega)
 . have d1:(((([[99,111,112,105,101,115],[digB t.1]]:List (List UInt8)).length:Nat):Int)==2)=true:=rfl;have d2:inb (1:Int) ([[99,111,112,105,101,115],[digB t.1]]:List (List UInt8)).length=true:=rfl;have d4:List.getD ([[99,111,112,105,101,115],[digB t.1]]:List (List UInt8)) (1:Int).toNat ([]:List UInt8)=[digB t.1]:=rfl
   have d5:(((([t.1]:List Int).length:Nat):Int)==1)=true:=rfl;have d6:inb (0:Int) ([t.1]:List Int).length=true:=rfl;have d7:List.getD ([t.1]:List Int) (0:Int).toNat 0=t.1:=rfl;unfold f90 F90;try delta lenI
   simp only [es,dT (show (R.length:Int) >= 3 by omega),need_true,inbT (show (0:Int)<=0 by omega) (show (0:Int)<R.length by omega),cond_true,R0,e0,d1,d2,d4,g1,d5,d6,d7,wl,hcok];exact key
 . try dsimp only
   rw [L90_0_succ]
   try delta lenI
   have hr:=row_of ht hk;have es2:t.2.1.take (k+1)=t.2.1.take k++[t.2.1.getD k NODE0]:=take_snoc NODE0 hk;have el:(t.2.1.take k).length<=8:=by rw [List.length_take];omega
   have eg:List.getD (t.2.1.map rowC) k ([]:List UInt8)=rowC (t.2.1.getD k NODE0):=by
    rw [List.getD_eq_getElem?_getD,List.getElem?_map,List.getElem?_eq_getElem hk,List.getD_eq_getElem?_getD,List.getElem?_eq_getElem hk];rfl
   rw [es2];generalize t.2.1.getD k NODE0=c at *;have er:=f112_at (rowC c) 32 (by have:=rowC_len hr;omega);rw [row_split hr] at er;have c1:(((([[99,111,112,121],[digB c.1],figsT c.2.1]:List (List UInt8)).length:Nat):Int)==3)=true:=rfl
   have c2:inb (1:Int) ([[99,111,112,121],[digB c.1],figsT c.2.1]:List (List UInt8)).length=true:=rfl;have c3:inb (2:Int) ([[99,111,112,121],[digB c.1],figsT c.2.1]:List (List UInt8)).length=true:=rfl;have c4:List.getD ([[99,111,112,121],[digB c.1],figsT c.2.1]:List (List UInt8)) (1:Int).toNat ([]:List UInt8)=[digB c.1]:=rfl
   have c5:List.getD ([[99,111,112,121],[digB c.1],figsT c.2.1]:List (List UInt8)) (2:Int).toNat ([]:List UInt8)=figsT c.2.1:=rfl;have c6:f114 ([digB c.1],(false,())) = .ret [c.1]:=by
    have:=f114_at (l:=[c.1]) (b:=false) (by simp) fun x hx=>.inr (by rw [List.mem_singleton.1 hx];exact hr.par)
    rwa [show figsT [c.1]=[digB c.1] by rw [digB_fig hr.par.1];rfl] at this
   have c7:f114 (figsT c.2.1,(true,())) = .ret c.2.1:=f114_at hr.len fun x hx=>by
    rcases hr.fig x hx with h|h
    . exact .inl ⟨rfl,h⟩
    . exact .inr h
   have d5:(((([c.1]:List Int).length:Nat):Int)==1)=true:=rfl;have d6:inb (0:Int) ([c.1]:List Int).length=true:=rfl;have d7:List.getD ([c.1]:List Int) (0:Int).toNat 0=c.1:=rfl;have hft:=fitsT (xs:=t.2.1.take k) (ys:=[((c.1,(c.2.1,())):NODE)]) (by simp only [List.length_cons,List.length_nil];omega)
   simp only [wl,hcut,ml,dT (show (k:Int)<t.2.1.length by omega),inbT (show (0:Int)<=k by omega) (show (k:Int)<t.2.1.length by omega),cond_true,Int.toNat_natCast,eg,er,c1,need_true,c2,c3,c4,c5,c6,c7,d5,d6,d7,wn (show k<1000000000 by omega)]
   rw [hft];rfl
 . try dsimp only
   rw [L90_0_succ]
   try delta lenI
   have e115:f115 ((t.1,(t.2.1,())),()) = .ret (txt (rowsC t)):=f115_at ht;simp only [wl,hcut,ml,dF (show ¬ ((t.2.1.length:Nat):Int)<t.2.1.length by omega),List.take_length,e115,beq_self_eq_true,need_true]
theorem f52_at {t:TREE} (ht:TreeOK t):f52 (txt (rowsC t),()) = .ret (t,(0,())):=by
 have tlen:=txt_len ht;unfold f52 F52
 try delta lenI
 simp only [dF (show ¬ ((txt (rowsC t)).length:Int) > 115 by omega),f90_at ht,ht.t55,Bool.not_true]
theorem f41n_self {t:TREE} (ht:TreeOK t):f41n (t,(t,())) = .ret true:=by
 have hfb:=fuel_big;have hc:=ht.copies;have hP:=ht.places;unfold f41n F41n
 try delta lenI
 simp only [nF (show t.1=t.1 from rfl),nF (show (t.2.1.length:Int)=t.2.1.length from rfl)];have key:=runL (L:=fun n k=>L41n_0 fuel n (t,(t,())) k) (len:=t.2.1.length) (K:=.ret true) (fun n k hk=>?_) (fun n=>?_) t.2.1.length fuel 0 (by omega) (by omega)
 . exact key
 . try dsimp only
   rw [L41n_0_succ]
   try delta lenI
   have hr:=row_of ht hk;have hl:=hr.len;simp only [dT (show (k:Int)<t.2.1.length by omega),inbT (show (0:Int)<=k by omega) (show (k:Int)<t.2.1.length by omega),cond_true,Int.toNat_natCast,wn (show k<1000000000 by omega),nF (show (t.2.1.getD k NODE0).1=(t.2.1.getD k NODE0).1 from rfl),f19_at (t.2.1.getD k NODE0).2.1 (t.2.1.getD k NODE0).2.1 (by omega),decide_true,Bool.not_true]
 . try dsimp only
   rw [L41n_0_succ]
   try delta lenI
   simp only [dF (show ¬ ((t.2.1.length:Nat):Int)<t.2.1.length by omega)]
theorem f38n_at {t:TREE} (ht:TreeOK t):f38n (t,()) = .ret (txt (rowsC t),(0,())):=by
 unfold f38n F38n;simp only [ht.t55,Bool.not_true,f115_at ht]
theorem f38n_no {t:TREE} (h:¬ TreeOK t):f38n (t,()) = .ret ([],(2,())):=by
 unfold f38n F38n;simp only [no55 h,Bool.not_false]
end Go.V
namespace Go.V
open Go.Proofs
def specs9:List Spec:=[sp13v,sp14v,sp38nv,sp17v,sp52v,sp54v,sp41nv]
def hints9:List (Nat×List Nat):=[]
def F9 (N:Nat) (x:lt1):Out Bool:=match f13v (x.1,()) with | .ret r_1=>(match (!r_1) with|true=>(match f14v () with | .ret r=>.ret r | .pan p=>.pan p | .fail=>.fail)|false=>match f38nv (x.1,()) with | .ret r_5=>(match f17v (x.1,()) with | .ret r_7=>(match (!r_7) with|true=>(match (r_5.2.1==2) with|true=>(match (r_5.1==([]:List UInt8)) with|true=>(match f14v () with | .ret r=>.ret r | .pan p=>.pan p | .fail=>.fail)|false=>.ret false)|false=>.ret false)|false=>match f52v (r_5.1,()) with | .ret r_11=>(match (r_5.2.1==0) with|true=>(match f54v (x.1,()) with | .ret r_13=>(match (r_5.1==r_13) with|true=>(match (r_11.2.1==0) with|true=>(match f41nv (r_11.1,(x.1,())) with | .ret r_15=>(match r_15 with|true=>(match f14v () with | .ret r=>.ret r | .pan p=>.pan p | .fail=>.fail)|false=>.ret false) | .pan p=>.pan p | .fail=>.fail)|false=>.ret false)|false=>.ret false) | .pan p=>.pan p | .fail=>.fail)|false=>.ret false) | .pan p=>.pan p | .fail=>.fail) | .pan p=>.pan p | .fail=>.fail) | .pan p=>.pan p | .fail=>.fail) | .pan p=>.pan p | .fail=>.fail
theorem e9 (N:Nat) (x:lt1):vfn Tryz.prog (phi specs9) hints9 N Tryz.f9 false false ty2 .bool x=F9 N x:=by kernel_rfl
def f9 (x:lt1):Out Bool:=F9 fuel x
def sp9:Spec:=⟨9,.call,ty2,.bool,false,false,f9⟩
theorem c9:Contract Tryz.prog sp9:=contract_at (l:=specs9) (arg:=ty2) (res:=.bool) (multi:=false) (own:=false) (F:=f9) mixed (all_cons c13v (all_cons c14v (all_cons c38nv (all_cons c17v (all_cons c52v (all_cons c54v (all_cons c41nv all_nil))))))) Tryz.func9 rfl hints9 fun x _=>⟨fuel,e9 fuel x⟩
end Go.V
namespace Go.V
open Go.Proofs
theorem law9 (t:TREE):f9 (t,()) = .ret true:=by
 show F9 fuel (t,())=_;unfold F9;obtain ⟨c,h13⟩:=f13_at t;simp only [f13v_eq,f38nv_eq,f17v_eq,f52v_eq,f54v_eq,f41nv_eq,h13];cases c with
 | false=>simp only [nf,known_true]
 | true =>
 simp only [nt]
 by_cases ht:TreeOK t
 rotate_left
 . simp only [f38n_no ht,no17 ht,nf,b22,beq_self_eq_true,known_true]
 simp only [f38n_at ht,ht.t17,nt,f52_at ht,b00,f54_at ht,beq_self_eq_true,f41n_self ht,known_true]
end Go.V
end
