/- A part of the proof of TopUnitsSaid: no condition beyond what each theorem says. -/
import Derived.Test.YtkohflnifdpahaaGreatU16
import Derived.Test.YtkohflnifdpahaaGreatU08
set_option linter.all false
namespace Go.V
open Go.Proofs
open Go.RowKit (Below)
abbrev SPANT:Ty:=.prod (.int .i64) (.prod (.int .i64) .unit)
abbrev MONT:Ty:=.prod (.int .i64) (.prod (.int .i64) (.prod (.int .i64) (.prod (.int .i64) .unit)))
abbrev LINT:Ty:=.prod (.int .i64) (.prod (.int .i64) (.prod SPANT (.prod (.int .i64) (.prod (.int .i64) (.prod MONT .unit)))))
abbrev BKT:Ty:=.prod (.int .i64) (.prod (.int .i64) (.prod (.int .i64) (.prod (.int .i64) (.prod (.int .i64) (.prod (.int .i64) (.prod (.list LINT) .unit))))))
abbrev ACCT:Ty:=.prod BKT (.prod (.list (.int .i64)) .unit)
abbrev LIN:Type:=Int×Int×(Int×Int×Unit)×Int×Int×(Int×Int×Int×Int×Unit)×Unit
abbrev BKD:Type:=Int×Int×Int×Int×Int×Int×List LIN×Unit
abbrev ACC:Type:=BKD×List Int×Unit
noncomputable def r49_0:Array Oper:=regAt 0 (bodyOf Tryz.f49)
theorem info49_0:r49_0.toList.map opInfo=[(some 2,.box 86 (.tmp 0),none),
 (some 4,.assign (.const (.int .i64 0)),none)]:=by kernel_rfl
noncomputable def r49_1:Array Oper:=regAt 1 (bodyOf Tryz.f49)
theorem info49_1:r49_1.toList.map opInfo=[(some 5,.assign (.const (.int .i64 0)),none)]:=by kernel_rfl
noncomputable def r49_2:Array Oper:=regAt 2 (bodyOf Tryz.f49)
theorem info49_2:r49_2.toList.map opInfo=[(some 8,.load 86 (.tmp 2),none),
 (some 9,.makeFunc (.func 81) #[.tmp 8] #[],none),
 (some 10,.load 86 (.tmp 2),none),
 (some 11,.makeFunc (.func 82) #[.tmp 10] #[],none),
 (some 12,.load 86 (.tmp 2),none),
 (some 13,.makeFunc (.func 83) #[.tmp 12] #[],none),
 (some 14,.build 123 #[(0,.tmp 9),(1,.tmp 11),(2,.tmp 13)],none),
 (some 15,.move (.const (.int .i64 0)),none)]:=by kernel_rfl
noncomputable def r49_3:Array Oper:=regAt 3 (bodyOf Tryz.f49)
theorem info49_3:r49_3.toList.map opInfo=[(some 16,.binOp .lss 3 (.tmp 15) (.const (.int .i64 3)) 3,none)]:=by kernel_rfl
noncomputable def r49_4:Array Oper:=regAt 4 (bodyOf Tryz.f49)
theorem info49_4:r49_4.toList.map opInfo=[(some 17,.index 123 (.tmp 14) (.tmp 15),none),
 (some 7,.assign (.tmp 17),none)]:=by kernel_rfl
noncomputable def r49_5:Array Oper:=regAt 5 (bodyOf Tryz.f49)
theorem info49_5:r49_5.toList.map opInfo=[(some 18,.move (.tmp 5),none),
 (some 19,.move (.tmp 7),none),
 (some 20,.move (.tmp 1),none),
 (some 21,.call { callee:=.value (.tmp 19),args := #[.tmp 20],argTypes := #[3] },none),
 (some 22,.binOp .add 3 (.tmp 18) (.tmp 21) 3,none),
 (some 5,.assign (.tmp 22),none)]:=by kernel_rfl
noncomputable def r49_6:Array Oper:=regAt 6 (bodyOf Tryz.f49)
theorem info49_6:r49_6.toList.map opInfo=[(some 23,.binOp .add 3 (.tmp 15) (.const (.int .i64 1)) 3,none),
 (some 15,.move (.tmp 23),none)]:=by kernel_rfl
noncomputable def r49_7:Array Oper:=regAt 7 (bodyOf Tryz.f49)
theorem info49_7:r49_7.toList.map opInfo=[(some 24,.move (.tmp 5),none),
 (some 4,.assign (.tmp 24),none)]:=by kernel_rfl
noncomputable def lb49:Code:=.seq (.region 3 r49_3 false) (.seq (.cond (.tmp 16) .skip (.exit 0)) (.seq (.block 1 (.seq (.region 4 r49_4 false) (.region 5 r49_5 false))) (.region 6 r49_6 false)))
theorem body49:bodyOf Tryz.f49 = .seq (.region 0 r49_0 false) (.seq (.region 1 r49_1 false) (.seq (.seq (.region 2 r49_2 false) (.block 0 (.loop lb49))) (.seq (.region 7 r49_7 false) .ret))):=by kernel_rfl
theorem some49:Tryz.f49.body=some (bodyOf Tryz.f49):=by kernel_rfl
theorem results49 {a:Act} {w:World}:(results Tryz.f49 a.tmps).run Tryz.prog w = .ok (tm a 4) w:=by
 have e:tm a 4=a.tmps[4]?.getD undef:=by unfold tm;simp
 rw [e]
 simp [results,Tryz.results49,go_sem]
section
variable {a : Act} {w : World} {o : Oper}
theorem ex_box86 {p:Nat} (ho:o.op = .box 86 (.tmp p)) {x0 x1 x2 x3 x4 x5 x6 x7:Value} (h:tm a p = .agg #[x0,x1,x2,x3,x4,x5,x6,x7]):(execOp a.eval o).run Tryz.prog w = .ok (.value (.pointer (some ⟨w.heap.size,0,none⟩))) (w.alloc (.cells #[x0,x1,x2,x3,x4,x5,x6,x7] 86)):=by
 have e:a.eval (.tmp p) = .agg #[x0,x1,x2,x3,x4,x5,x6,x7]:=h
 simp only [execOp,ho,e]
 simp [go_sem]
theorem ex_load86 {p:Nat} (ho:o.op = .load 86 (.tmp p)) {b T:Nat} {x0 x1 x2 x3 x4 x5 x6 x7:Value} (ht:tm a p = .pointer (some ⟨b,0,none⟩)) (hh:w.heap[b]? = some (.cells #[x0,x1,x2,x3,x4,x5,x6,x7] T (0,0))) :
 (execOp a.eval o).run Tryz.prog w = .ok (.value (.agg #[x0,x1,x2,x3,x4,x5,x6,x7])) w:=by
 have:=load_cells (P:=Tryz.prog) (n:=9) (T:=86) (t:=ACCT) (w:=w) (b:=b) (off:=0) (us':=[]) (c1:=[x0,x1,x2,x3,x4,x5,x6,x7]) (by kernel_rfl) hh rfl rfl
 have e1:a.eval (.tmp p) = .pointer (some ⟨b,0,none⟩):=ht
 simp [execOp,ho,e1,Instr.loadAt,Instr.sureAddr,this,toVal,Ty.agg]
theorem ex_makeB {g p:Nat} (ho:o.op = .makeFunc (.func g) #[.tmp p] #[]) {u:Value} (h:tm a p=u):(execOp a.eval o).run Tryz.prog w = .ok (.value (.func (.func g) #[u] #[])) w:=by
 have e:a.eval (.tmp p)=u:=h
 simp only [execOp,ho,List.map_toArray,List.map_cons,List.map_nil,e]
 simp [go_sem,Instr.makeFunc,e]
theorem ex_build123 (ho:o.op = .build 123 #[(0,.tmp 9),(1,.tmp 11),(2,.tmp 13)]) {u:Value} (h1:tm a 9 = .func (.func 81) #[u] #[]) (h2:tm a 11 = .func (.func 82) #[u] #[]) (h3:tm a 13 = .func (.func 83) #[u] #[]):(execOp a.eval o).run Tryz.prog w = .ok (.value (.agg #[.func (.func 81) #[u] #[],.func (.func 82) #[u] #[],.func (.func 83) #[u] #[]])) w:=by
 have e1:a.eval (.tmp 9) = .func (.func 81) #[u] #[]:=h1
 have e2:a.eval (.tmp 11) = .func (.func 82) #[u] #[]:=h2
 have e3:a.eval (.tmp 13) = .func (.func 83) #[u] #[]:=h3
 simp only [execOp,ho,List.map_toArray,List.map_cons,List.map_nil,e1,e2,e3]
 simp [go_sem]
theorem ex_index123 (ho:o.op = .index 123 (.tmp 14) (.tmp 15)) {u0 u1 u2:Value} {i:Nat} {v:Value} (hi:i<3) (h1:tm a 14 = .agg #[u0,u1,u2]) (h2:tm a 15 = .int .i64 i) (hv : #[u0,u1,u2][i]? = some v):(execOp a.eval o).run Tryz.prog w = .ok (.value v) w:=by
 have e1:a.eval (.tmp 14) = .agg #[u0,u1,u2]:=h1
 have e2:a.eval (.tmp 15) = .int .i64 i:=h2
 have hu:Tryz.prog.underlying 123=some (.array 3 87):=by kernel_rfl
 have hE:tyOf Tryz.prog 9 87=some .raw:=by kernel_rfl
 match i,hi,hv with
 | 0,_,hv=>cases hv;have hp:=run_part (P:=Tryz.prog) hE #[u0,u1,u2] 0 rfl w;simp [execOp,ho,e1,e2,Instr.index,asIntOf,run_underlying hu,run_sizeOf hE,hp,toVal,Ty.agg,Ty.size]
 | 1,_,hv=>cases hv;have hp:=run_part (P:=Tryz.prog) hE #[u0,u1,u2] 1 rfl w;simp [execOp,ho,e1,e2,Instr.index,asIntOf,run_underlying hu,run_sizeOf hE,hp,toVal,Ty.agg,Ty.size]
 | 2,_,hv=>cases hv;have hp:=run_part (P:=Tryz.prog) hE #[u0,u1,u2] 2 rfl w;simp [execOp,ho,e1,e2,Instr.index,asIntOf,run_underlying hu,run_sizeOf hE,hp,toVal,Ty.agg,Ty.size]
theorem ex_callB {g p q:Nat} {T:Array Nat} (hent:enters Tryz.prog g=true) (ho:o.op = .call { callee:=.value (.tmp p),args := #[.tmp q],argTypes:=T }) {v u:Value} (h0:tm a p = .func (.func g) #[v] #[]) (h1:tm a q=u):(execOp a.eval o).run Tryz.prog w = .ok (.enter g #[v,u]) w:=by
 have e0:a.eval (.tmp p) = .func (.func g) #[v] #[]:=h0
 have e1:a.eval (.tmp q)=u:=h1
 have e3:=fun args=>enters_run (P:=Tryz.prog) (g:=g) hent args w
 simp [execOp,ho,resolve,e0,e1,Deferred.ofValue,invoke,e3]
theorem ex_ltK {p:Nat} (ho:o.op = .binOp .lss 3 (.tmp p) (.const (.int .i64 3)) 3) {x:Int} (h1:tm a p = .int .i64 x):(execOp a.eval o).run Tryz.prog w = .ok (.value (.bool (decide (x<3)))) w:=by
 have e1:a.eval (.tmp p) = .int .i64 x:=h1
 have e2:a.eval (.const (.int .i64 3)) = .int .i64 3:=rfl
 have e3:(binOp .lss 3 (.int .i64 x) (.int .i64 3)).run Tryz.prog w = .ok (.bool (decide (x<3))) w:=by simp [binOp,Op.intCmp]
 simp [execOp,ho,e1,e2,eqG_int,e3]
theorem ex_addI {p q:Nat} (ho:o.op = .binOp .add 3 (.tmp p) (.tmp q) 3) {x y:Int} (h1:tm a p = .int .i64 x) (h2:tm a q = .int .i64 y):(execOp a.eval o).run Tryz.prog w = .ok (.value (.int .i64 (IntKind.i64.wrap (x+y)))) w:=by
 have e1:a.eval (.tmp p) = .int .i64 x:=h1
 have e2:a.eval (.tmp q) = .int .i64 y:=h2
 have e3:(binOp .add 3 (.int .i64 x) (.int .i64 y)).run Tryz.prog w = .ok (.int .i64 (IntKind.i64.wrap (x+y))) w:=by simp [binOp,Op.intArith]
 simp [execOp,ho,e1,e2,eqG_int,e3]
end
structure B49 (u:Value) (line:Int) (w0:World) (i:Nat) (n:Int) (a:Act) (w:World):Prop where
 sz:a.tmps.size=25
 df:a.defers=[]
 t1:tm a 1 = .int .i64 line
 t5:tm a 5 = .int .i64 n
 t14:tm a 14 = .agg #[.func (.func 81) #[u] #[],.func (.func 82) #[u] #[],.func (.func 83) #[u] #[]]
 t15:tm a 15 = .int .i64 i
 bl:Below w0.heap.size w0 w
theorem round49 {u:Value} {line:Int} {w0:World} {i:Nat} {n y:Int} {g:Nat} (hi:i<3) (hg:enters Tryz.prog g=true) (hv : #[Value.func (.func 81) #[u] #[],.func (.func 82) #[u] #[],.func (.func 83) #[u] #[]][i]? = some (.func (.func g) #[u] #[]))
 (hcall:∀ w,Below w0.heap.size w0 w->Calls Tryz.prog g #[u,.int .i64 line] w fun e w'=>e = .returned (.int .i64 y)/\Below w.heap.size w w') {a:Act} {w:World} (B:B49 u line w0 i n a w) {Q:Exit->Act->World->Prop} (hQ:∀ a' w',B49 u line w0 (i+1) (IntKind.i64.wrap (n+y)) a' w'->Q .normal a' w') :
 lb49.wpIn (fen none) 0 Tryz.prog Q a w:=by
 have hsz:=B.sz
 show Code.wpIn (fen none) 0 Tryz.prog (.seq (.region 3 r49_3 false) (.seq (.cond (.tmp 16) .skip (.exit 0)) (.seq (.block 1 (.seq (.region 4 r49_4 false) (.region 5 r49_5 false))) (.region 6 r49_6 false)))) _ a w
 refine wpIn_seq ?_
 refine wpIn_region ?_
 rw [show r49_3.size=1 by kernel_rfl]
 show wpOpsIn (fen none) 0 Tryz.prog r49_3 _ [0] a w
 obtain ⟨ox0,ix0,dx0,px0,qx0⟩:=infoAt info49_3 (i:=0) rfl
 simp only at dx0 px0 qx0
 rw [wpOpsIn_cons]
 refine opr_value ix0 (wanted_none qx0) (fun c h=>by rw [px0] at h;cases h) (ex_ltK px0 B.t15) ?_
 rw [dx0]
 obtain ⟨ax1,hax1⟩:∃ zz:Act,zz=Act.put a (some 16) (.bool (decide ((i:Int)<3))):=⟨_,rfl⟩
 rw [<- hax1]
 have zx1:ax1.tmps.size=25:=by rw [hax1,size_put];exact hsz
 refine wpIn_seq ?_
 have tx1_16:tm ax1 16 = .bool (decide ((i:Int)<3)):=by rw [hax1];exact tm_put_same (by omega)
 have hlt:tm ax1 16 = .bool true:=by rw [tx1_16,decide_eq_true (by omega)]
 refine wpIn_cond (t:=true) hlt ?_
 simp only [if_true]
 refine wpIn_skip (wpIn_seq (wpIn_block (wpIn_seq ?_)))
 have tx1_1:tm ax1 1 = .int .i64 line:=by rw [hax1,tm_put_other (by omega)];exact B.t1
 have tx1_5:tm ax1 5 = .int .i64 n:=by rw [hax1,tm_put_other (by omega)];exact B.t5
 have tx1_14:tm ax1 14 = .agg #[.func (.func 81) #[u] #[],.func (.func 82) #[u] #[],.func (.func 83) #[u] #[]]:=by rw [hax1,tm_put_other (by omega)];exact B.t14
 have tx1_15:tm ax1 15 = .int .i64 i:=by rw [hax1,tm_put_other (by omega)];exact B.t15
 refine wpIn_region ?_
 rw [show r49_4.size=2 by kernel_rfl]
 show wpOpsIn (fen none) 0 Tryz.prog r49_4 _ [0,1] ax1 w
 obtain ⟨oy0,iy0,dy0,py0,qy0⟩:=infoAt info49_4 (i:=0) rfl
 simp only at dy0 py0 qy0
 rw [wpOpsIn_cons]
 refine opr_value iy0 (wanted_none qy0) (fun c h=>by rw [py0] at h;cases h) (ex_index123 py0 hi tx1_14 tx1_15 hv) ?_
 rw [dy0]
 obtain ⟨ay1,hay1⟩:∃ zz:Act,zz=Act.put ax1 (some 17) (.func (.func g) #[u] #[]):=⟨_,rfl⟩
 rw [<- hay1]
 have zy1:ay1.tmps.size=25:=by rw [hay1,size_put];exact zx1
 have ty1_17:tm ay1 17 = .func (.func g) #[u] #[]:=by rw [hay1];exact tm_put_same (by omega)
 obtain ⟨oy1,iy1,dy1,py1,qy1⟩:=infoAt info49_4 (i:=1) rfl
 simp only at dy1 py1 qy1
 rw [wpOpsIn_cons]
 refine opr_value iy1 (wanted_none qy1) (fun c h=>by rw [py1] at h;cases h) (ex_assign py1) ?_
 rw [dy1,ty1_17]
 obtain ⟨ay2,hay2⟩:∃ zz:Act,zz=Act.put ay1 (some 7) (.func (.func g) #[u] #[]):=⟨_,rfl⟩
 rw [<- hay2]
 have zy2:ay2.tmps.size=25:=by rw [hay2,size_put];exact zy1
 have ty1_1:tm ay1 1 = .int .i64 line:=by rw [hay1,tm_put_other (by omega)];exact tx1_1
 have ty2_1:tm ay2 1 = .int .i64 line:=by rw [hay2,tm_put_other (by omega)];exact ty1_1
 have ty1_5:tm ay1 5 = .int .i64 n:=by rw [hay1,tm_put_other (by omega)];exact tx1_5
 have ty2_5:tm ay2 5 = .int .i64 n:=by rw [hay2,tm_put_other (by omega)];exact ty1_5
 have ty2_7:tm ay2 7 = .func (.func g) #[u] #[]:=by rw [hay2];exact tm_put_same (by omega)
 have ty1_14:tm ay1 14 = .agg #[.func (.func 81) #[u] #[],.func (.func 82) #[u] #[],.func (.func 83) #[u] #[]]:=by rw [hay1,tm_put_other (by omega)];exact tx1_14
 have ty2_14:tm ay2 14 = .agg #[.func (.func 81) #[u] #[],.func (.func 82) #[u] #[],.func (.func 83) #[u] #[]]:=by rw [hay2,tm_put_other (by omega)];exact ty1_14
 have ty1_15:tm ay1 15 = .int .i64 i:=by rw [hay1,tm_put_other (by omega)];exact tx1_15
 have ty2_15:tm ay2 15 = .int .i64 i:=by rw [hay2,tm_put_other (by omega)];exact ty1_15
 refine wpIn_region ?_
 rw [show r49_5.size=6 by kernel_rfl]
 show wpOpsIn (fen none) 0 Tryz.prog r49_5 _ [0,1,2,3,4,5] ay2 w
 obtain ⟨oz0,iz0,dz0,pz0,qz0⟩:=infoAt info49_5 (i:=0) rfl
 simp only at dz0 pz0 qz0
 rw [wpOpsIn_cons]
 refine opr_value iz0 (wanted_none qz0) (fun c h=>by rw [pz0] at h;cases h) (ex_move pz0) ?_
 rw [dz0,ty2_5]
 obtain ⟨az1,haz1⟩:∃ zz:Act,zz=Act.put ay2 (some 18) (.int .i64 n):=⟨_,rfl⟩
 rw [<- haz1]
 have zz1:az1.tmps.size=25:=by rw [haz1,size_put];exact zy2
 have tz1_7:tm az1 7 = .func (.func g) #[u] #[]:=by rw [haz1,tm_put_other (by omega)];exact ty2_7
 obtain ⟨oz1,iz1,dz1,pz1,qz1⟩:=infoAt info49_5 (i:=1) rfl
 simp only at dz1 pz1 qz1
 rw [wpOpsIn_cons]
 refine opr_value iz1 (wanted_none qz1) (fun c h=>by rw [pz1] at h;cases h) (ex_move pz1) ?_
 rw [dz1,tz1_7]
 obtain ⟨az2,haz2⟩:∃ zz:Act,zz=Act.put az1 (some 19) (.func (.func g) #[u] #[]):=⟨_,rfl⟩
 rw [<- haz2]
 have zz2:az2.tmps.size=25:=by rw [haz2,size_put];exact zz1
 have tz1_1:tm az1 1 = .int .i64 line:=by rw [haz1,tm_put_other (by omega)];exact ty2_1
 have tz2_1:tm az2 1 = .int .i64 line:=by rw [haz2,tm_put_other (by omega)];exact tz1_1
 obtain ⟨oz2,iz2,dz2,pz2,qz2⟩:=infoAt info49_5 (i:=2) rfl
 simp only at dz2 pz2 qz2
 rw [wpOpsIn_cons]
 refine opr_value iz2 (wanted_none qz2) (fun c h=>by rw [pz2] at h;cases h) (ex_move pz2) ?_
 rw [dz2,tz2_1]
 obtain ⟨az3,haz3⟩:∃ zz:Act,zz=Act.put az2 (some 20) (.int .i64 line):=⟨_,rfl⟩
 rw [<- haz3]
 have zz3:az3.tmps.size=25:=by rw [haz3,size_put];exact zz2
 have tz2_19:tm az2 19 = .func (.func g) #[u] #[]:=by rw [haz2];exact tm_put_same (by omega)
 have tz3_19:tm az3 19 = .func (.func g) #[u] #[]:=by rw [haz3,tm_put_other (by omega)];exact tz2_19
 have tz3_20:tm az3 20 = .int .i64 line:=by rw [haz3];exact tm_put_same (by omega)
 obtain ⟨oz3,iz3,dz3,pz3,qz3⟩:=infoAt info49_5 (i:=3) rfl
 simp only at dz3 pz3 qz3
 rw [wpOpsIn_cons]
 refine opr_enter (ro:=none) iz3 (wanted_none qz3) (fun c h=>by rw [pz3] at h;cases h) (ex_callB hg pz3 tz3_19 tz3_20) ((hcall w B.bl).mono ?_)
 rintro e w' ⟨rfl,hbl⟩
 refine ⟨_,rfl,?_⟩
 rw [dz3]
 obtain ⟨az4,haz4⟩:∃ zz:Act,zz=Act.put az3 (some 21) (.int .i64 y):=⟨_,rfl⟩
 rw [<- haz4]
 have zz4:az4.tmps.size=25:=by rw [haz4,size_put];exact zz3
 have tz1_18:tm az1 18 = .int .i64 n:=by rw [haz1];exact tm_put_same (by omega)
 have tz2_18:tm az2 18 = .int .i64 n:=by rw [haz2,tm_put_other (by omega)];exact tz1_18
 have tz3_18:tm az3 18 = .int .i64 n:=by rw [haz3,tm_put_other (by omega)];exact tz2_18
 have tz4_18:tm az4 18 = .int .i64 n:=by rw [haz4,tm_put_other (by omega)];exact tz3_18
 have tz4_21:tm az4 21 = .int .i64 y:=by rw [haz4];exact tm_put_same (by omega)
 obtain ⟨oz4,iz4,dz4,pz4,qz4⟩:=infoAt info49_5 (i:=4) rfl
 simp only at dz4 pz4 qz4
 rw [wpOpsIn_cons]
 refine opr_value iz4 (wanted_none qz4) (fun c h=>by rw [pz4] at h;cases h) (ex_addI pz4 tz4_18 tz4_21) ?_
 rw [dz4]
 obtain ⟨az5,haz5⟩:∃ zz:Act,zz=Act.put az4 (some 22) (.int .i64 (IntKind.i64.wrap (n+y))):=⟨_,rfl⟩
 rw [<- haz5]
 have zz5:az5.tmps.size=25:=by rw [haz5,size_put];exact zz4
 have tz5_22:tm az5 22 = .int .i64 (IntKind.i64.wrap (n+y)):=by rw [haz5];exact tm_put_same (by omega)
 obtain ⟨oz5,iz5,dz5,pz5,qz5⟩:=infoAt info49_5 (i:=5) rfl
 simp only at dz5 pz5 qz5
 rw [wpOpsIn_cons]
 refine opr_value iz5 (wanted_none qz5) (fun c h=>by rw [pz5] at h;cases h) (ex_assign pz5) ?_
 rw [dz5,tz5_22]
 obtain ⟨az6,haz6⟩:∃ zz:Act,zz=Act.put az5 (some 5) (.int .i64 (IntKind.i64.wrap (n+y))):=⟨_,rfl⟩
 rw [<- haz6]
 have zz6:az6.tmps.size=25:=by rw [haz6,size_put];exact zz5
 have tz3_1:tm az3 1 = .int .i64 line:=by rw [haz3,tm_put_other (by omega)];exact tz2_1
 have tz4_1:tm az4 1 = .int .i64 line:=by rw [haz4,tm_put_other (by omega)];exact tz3_1
 have tz5_1:tm az5 1 = .int .i64 line:=by rw [haz5,tm_put_other (by omega)];exact tz4_1
 have tz6_1:tm az6 1 = .int .i64 line:=by rw [haz6,tm_put_other (by omega)];exact tz5_1
 have tz6_5:tm az6 5 = .int .i64 (IntKind.i64.wrap (n+y)):=by rw [haz6];exact tm_put_same (by omega)
 have tz1_14:tm az1 14 = .agg #[.func (.func 81) #[u] #[],.func (.func 82) #[u] #[],.func (.func 83) #[u] #[]]:=by rw [haz1,tm_put_other (by omega)];exact ty2_14
 have tz2_14:tm az2 14 = .agg #[.func (.func 81) #[u] #[],.func (.func 82) #[u] #[],.func (.func 83) #[u] #[]]:=by rw [haz2,tm_put_other (by omega)];exact tz1_14
 have tz3_14:tm az3 14 = .agg #[.func (.func 81) #[u] #[],.func (.func 82) #[u] #[],.func (.func 83) #[u] #[]]:=by rw [haz3,tm_put_other (by omega)];exact tz2_14
 have tz4_14:tm az4 14 = .agg #[.func (.func 81) #[u] #[],.func (.func 82) #[u] #[],.func (.func 83) #[u] #[]]:=by rw [haz4,tm_put_other (by omega)];exact tz3_14
 have tz5_14:tm az5 14 = .agg #[.func (.func 81) #[u] #[],.func (.func 82) #[u] #[],.func (.func 83) #[u] #[]]:=by rw [haz5,tm_put_other (by omega)];exact tz4_14
 have tz6_14:tm az6 14 = .agg #[.func (.func 81) #[u] #[],.func (.func 82) #[u] #[],.func (.func 83) #[u] #[]]:=by rw [haz6,tm_put_other (by omega)];exact tz5_14
 have tz1_15:tm az1 15 = .int .i64 i:=by rw [haz1,tm_put_other (by omega)];exact ty2_15
 have tz2_15:tm az2 15 = .int .i64 i:=by rw [haz2,tm_put_other (by omega)];exact tz1_15
 have tz3_15:tm az3 15 = .int .i64 i:=by rw [haz3,tm_put_other (by omega)];exact tz2_15
 have tz4_15:tm az4 15 = .int .i64 i:=by rw [haz4,tm_put_other (by omega)];exact tz3_15
 have tz5_15:tm az5 15 = .int .i64 i:=by rw [haz5,tm_put_other (by omega)];exact tz4_15
 have tz6_15:tm az6 15 = .int .i64 i:=by rw [haz6,tm_put_other (by omega)];exact tz5_15
 refine wpIn_region ?_
 rw [show r49_6.size=2 by kernel_rfl]
 show wpOpsIn (fen none) 0 Tryz.prog r49_6 _ [0,1] az6 w'
 obtain ⟨ot0,it0,dt0,pt0,qt0⟩:=infoAt info49_6 (i:=0) rfl
 simp only at dt0 pt0 qt0
 rw [wpOpsIn_cons]
 refine opr_value it0 (wanted_none qt0) (fun c h=>by rw [pt0] at h;cases h) (ex_add1 pt0 tz6_15) ?_
 rw [dt0]
 obtain ⟨at1,hat1⟩:∃ zz:Act,zz=Act.put az6 (some 23) (.int .i64 (IntKind.i64.wrap ((i:Int)+1))):=⟨_,rfl⟩
 rw [<- hat1]
 have zt1:at1.tmps.size=25:=by rw [hat1,size_put];exact zz6
 have tt1_23:tm at1 23 = .int .i64 (IntKind.i64.wrap ((i:Int)+1)):=by rw [hat1];exact tm_put_same (by omega)
 obtain ⟨ot1,it1,dt1,pt1,qt1⟩:=infoAt info49_6 (i:=1) rfl
 simp only at dt1 pt1 qt1
 rw [wpOpsIn_cons]
 refine opr_value it1 (wanted_none qt1) (fun c h=>by rw [pt1] at h;cases h) (ex_move pt1) ?_
 rw [dt1,tt1_23]
 obtain ⟨at2,hat2⟩:∃ zz:Act,zz=Act.put at1 (some 15) (.int .i64 (IntKind.i64.wrap ((i:Int)+1))):=⟨_,rfl⟩
 rw [<- hat2]
 have zt2:at2.tmps.size=25:=by rw [hat2,size_put];exact zt1
 have tt1_1:tm at1 1 = .int .i64 line:=by rw [hat1,tm_put_other (by omega)];exact tz6_1
 have tt2_1:tm at2 1 = .int .i64 line:=by rw [hat2,tm_put_other (by omega)];exact tt1_1
 have tt1_5:tm at1 5 = .int .i64 (IntKind.i64.wrap (n+y)):=by rw [hat1,tm_put_other (by omega)];exact tz6_5
 have tt2_5:tm at2 5 = .int .i64 (IntKind.i64.wrap (n+y)):=by rw [hat2,tm_put_other (by omega)];exact tt1_5
 have tt1_14:tm at1 14 = .agg #[.func (.func 81) #[u] #[],.func (.func 82) #[u] #[],.func (.func 83) #[u] #[]]:=by rw [hat1,tm_put_other (by omega)];exact tz6_14
 have tt2_14:tm at2 14 = .agg #[.func (.func 81) #[u] #[],.func (.func 82) #[u] #[],.func (.func 83) #[u] #[]]:=by rw [hat2,tm_put_other (by omega)];exact tt1_14
 have tt2_15:tm at2 15 = .int .i64 (IntKind.i64.wrap ((i:Int)+1)):=by rw [hat2];exact tm_put_same (by omega)
 have hd:at2.defers=[]:=by rw [hat2,defers_put,hat1,defers_put,haz6,defers_put,haz5,defers_put,haz4,defers_put,haz3,defers_put,haz2,defers_put,haz1,defers_put,hay2,defers_put,hay1,defers_put,hax1,defers_put];exact B.df
 have hbl2:Below w0.heap.size w0 w':=B.bl.trans ⟨hbl.os,hbl.tape,hbl.output,hbl.size,fun k hk=>hbl.block k (by have:=B.bl.size;omega)⟩
 exact hQ _ _ ⟨zt2,hd,tt2_1,tt2_5,tt2_14,tt2_15.trans (by rw [wr (by omega) (by omega)];congr 1),hbl2⟩
noncomputable def f49 (x:ACC×Int×Unit):Out Int :=
 match f81 x,f82 x,f83 x with
 | .ret p,.ret q,.ret r=>.ret (IntKind.i64.wrap (IntKind.i64.wrap (IntKind.i64.wrap (0+p)+q)+r))
 | _,_,_=>.fail
noncomputable def sp49:Spec:=⟨49,.call,.prod ACCT (.prod (.int .i64) .unit),.int .i64,false,false,f49⟩
theorem f49_inv {x:ACC×Int×Unit} {r:Int} (h:f49 x = .ret r):∃ p q s,f81 x = .ret p/\f82 x = .ret q/\f83 x = .ret s/\r=IntKind.i64.wrap (IntKind.i64.wrap (IntKind.i64.wrap (0+p)+q)+s):=by
 unfold f49 at h
 split at h
 . rename_i p q s h1 h2 h3
   cases h
   exact ⟨p,q,s,h1,h2,h3,rfl⟩
 . cases h
theorem f49_pan (x:ACC×Int×Unit) (p:Value):f49 x ≠ .pan p:=fun h=>by
 unfold f49 at h
 split at h<;>cases h
theorem call_int {g:Nat} {f:(ACC×Int×Unit)->Out Int} (hc:Contract Tryz.prog ⟨g,.call,.prod ACCT (.prod (.int .i64) .unit),.int .i64,false,false,f⟩) {M:Mut} {w0 w:World} {u:Value} {acc:ACC} {line y:Int} (hI:Inv.I Tryz.prog w0) (hu:RepV M w0 ACCT u acc) (hlt:∀ b o,M b o->b<w0.heap.size) (hy:f (acc,(line,())) = .ret y) (hb:Below w0.heap.size w0 w) :
 Calls Tryz.prog g #[u,.int .i64 line] w fun e w'=>e = .returned (.int .i64 y)/\Below w.heap.size w w':=by
 have h:=hc (acc,(line,())) M w #[u,.int .i64 line] (Inv.below _ _ hI hb) ⟨_,_,rfl,RepV.mono (stable_below hb) hu,_,_,rfl,⟨[.int .i64 line],rfl,rfl⟩,rfl⟩ (fun b o h=>Nat.lt_of_lt_of_le (hlt b o h) hb.size)
 have e:(⟨g,.call,.prod ACCT (.prod (.int .i64) .unit),.int .i64,false,false,f⟩:Spec).f (acc,(line,())) = .ret y:=hy
 rw [e] at h
 refine h.mono ?_
 rintro e w' ⟨v,rfl,h1,M',_,_,h2,_⟩
 refine ⟨?_,h1⟩
 have h2:RepV M' w' (.int .i64) v y:=h2
 obtain ⟨cs,e1,e2⟩:=h2
 have e2:cs=[.int .i64 y]:=e2
 subst e2
 rw [e1];rfl
theorem owed_calls {M:Mut} {W:World} {u:Value} {acc:ACC} {line r:Int} (hI:Inv.I Tryz.prog W) (hu:RepV M W ACCT u acc) (hlt:∀ b o,M b o->b<W.heap.size) (hr:f49 (acc,(line,())) = .ret r) :
 Calls Tryz.prog 49 #[u,.int .i64 line] W fun e w'=>e = .returned (.int .i64 r)/\Below W.heap.size W w':=by
 obtain ⟨p,q,s,h1,h2,h3,rfl⟩:=f49_inv hr
 obtain ⟨cs,e,hc⟩:=id hu
 obtain ⟨x0,x1,x2,x3,x4,x5,x6,x7,rfl⟩:∃ x0 x1 x2 x3 x4 x5 x6 x7,cs=[x0,x1,x2,x3,x4,x5,x6,x7]:=by
  have hl:cs.length=8:=RepC.length _ _ _ hc
  match cs,hl with
  | [x0,x1,x2,x3,x4,x5,x6,x7],_=>exact ⟨x0,x1,x2,x3,x4,x5,x6,x7,rfl⟩
 have e:u = .agg #[x0,x1,x2,x3,x4,x5,x6,x7]:=e
 subst e
 refine callsIn_wide.1 (callsIn_of_wp_marks (n:=0) Tryz.func49 some49 trivial ?_)
 show (bodyOf Tryz.f49).wpIn (fen none) 0 Tryz.prog _ { tmps := #[.agg #[x0,x1,x2,x3,x4,x5,x6,x7],.int .i64 line]++Array.replicate (25 - 2) undef,defers:=[] } W
 obtain ⟨a0,ha0⟩:∃ a0:Act,a0={ tmps := #[.agg #[x0,x1,x2,x3,x4,x5,x6,x7],.int .i64 line]++Array.replicate (25 - 2) undef,defers:=[] }:=⟨_,rfl⟩
 rw [<- ha0,body49]
 have z0:a0.tmps.size=25:=by rw [ha0];simp
 have t0:tm a0 0 = .agg #[x0,x1,x2,x3,x4,x5,x6,x7]:=by rw [ha0];simp [tm]
 have t1:tm a0 1 = .int .i64 line:=by rw [ha0];simp [tm]
 have hd0:a0.defers=[]:=by rw [ha0]
 refine wpIn_seq ?_
 refine wpIn_region ?_
 rw [show r49_0.size=2 by kernel_rfl]
 show wpOpsIn (fen none) 0 Tryz.prog r49_0 _ [0,1] a0 W
 obtain ⟨ox0,ix0,dx0,px0,qx0⟩:=infoAt info49_0 (i:=0) rfl
 simp only at dx0 px0 qx0
 rw [wpOpsIn_cons]
 refine opr_value ix0 (wanted_none qx0) (fun c h=>by rw [px0] at h;cases h) (ex_box86 px0 t0) ?_
 rw [dx0]
 obtain ⟨ax1,hax1⟩:∃ zz:Act,zz=Act.put a0 (some 2) (.pointer (some ⟨W.heap.size,0,none⟩)):=⟨_,rfl⟩
 rw [<- hax1]
 have zx1:ax1.tmps.size=25:=by rw [hax1,size_put];exact z0
 obtain ⟨w1,hw1⟩:∃ b:World,b=W.alloc (.cells #[x0,x1,x2,x3,x4,x5,x6,x7] 86):=⟨_,rfl⟩
 rw [<- hw1]
 have c1:w1.heap[W.heap.size]? = some (.cells #[x0,x1,x2,x3,x4,x5,x6,x7] 86 (0,0)):=by rw [hw1];exact heap_alloc_new W _
 have hb1:Below W.heap.size W w1:=by rw [hw1];exact (Below.refl _ W).alloc (Nat.le_refl _) _
 obtain ⟨ox1,ix1,dx1,px1,qx1⟩:=infoAt info49_0 (i:=1) rfl
 simp only at dx1 px1 qx1
 rw [wpOpsIn_cons]
 refine opr_value ix1 (wanted_none qx1) (fun c h=>by rw [px1] at h;cases h) (ex_assignK px1) ?_
 rw [dx1]
 obtain ⟨ax2,hax2⟩:∃ zz:Act,zz=Act.put ax1 (some 4) (.int .i64 0):=⟨_,rfl⟩
 rw [<- hax2]
 have zx2:ax2.tmps.size=25:=by rw [hax2,size_put];exact zx1
 refine wpIn_seq ?_
 have tx1_1:tm ax1 1 = .int .i64 line:=by rw [hax1,tm_put_other (by omega)];exact t1
 have tx2_1:tm ax2 1 = .int .i64 line:=by rw [hax2,tm_put_other (by omega)];exact tx1_1
 have tx1_2:tm ax1 2 = .pointer (some ⟨W.heap.size,0,none⟩):=by rw [hax1];exact tm_put_same (by omega)
 have tx2_2:tm ax2 2 = .pointer (some ⟨W.heap.size,0,none⟩):=by rw [hax2,tm_put_other (by omega)];exact tx1_2
 refine wpIn_region ?_
 rw [show r49_1.size=1 by kernel_rfl]
 show wpOpsIn (fen none) 0 Tryz.prog r49_1 _ [0] ax2 w1
 obtain ⟨oy0,iy0,dy0,py0,qy0⟩:=infoAt info49_1 (i:=0) rfl
 simp only at dy0 py0 qy0
 rw [wpOpsIn_cons]
 refine opr_value iy0 (wanted_none qy0) (fun c h=>by rw [py0] at h;cases h) (ex_assignK py0) ?_
 rw [dy0]
 obtain ⟨ay1,hay1⟩:∃ zz:Act,zz=Act.put ax2 (some 5) (.int .i64 0):=⟨_,rfl⟩
 rw [<- hay1]
 have zy1:ay1.tmps.size=25:=by rw [hay1,size_put];exact zx2
 refine wpIn_seq (wpIn_seq ?_)
 have ty1_1:tm ay1 1 = .int .i64 line:=by rw [hay1,tm_put_other (by omega)];exact tx2_1
 have ty1_2:tm ay1 2 = .pointer (some ⟨W.heap.size,0,none⟩):=by rw [hay1,tm_put_other (by omega)];exact tx2_2
 have ty1_5:tm ay1 5 = .int .i64 0:=by rw [hay1];exact tm_put_same (by omega)
 refine wpIn_region ?_
 rw [show r49_2.size=8 by kernel_rfl]
 show wpOpsIn (fen none) 0 Tryz.prog r49_2 _ [0,1,2,3,4,5,6,7] ay1 w1
 obtain ⟨oz0,iz0,dz0,pz0,qz0⟩:=infoAt info49_2 (i:=0) rfl
 simp only at dz0 pz0 qz0
 rw [wpOpsIn_cons]
 refine opr_value iz0 (wanted_none qz0) (fun c h=>by rw [pz0] at h;cases h) (ex_load86 pz0 ty1_2 c1) ?_
 rw [dz0]
 obtain ⟨az1,haz1⟩:∃ zz:Act,zz=Act.put ay1 (some 8) (.agg #[x0,x1,x2,x3,x4,x5,x6,x7]):=⟨_,rfl⟩
 rw [<- haz1]
 have zz1:az1.tmps.size=25:=by rw [haz1,size_put];exact zy1
 have tz1_8:tm az1 8 = .agg #[x0,x1,x2,x3,x4,x5,x6,x7]:=by rw [haz1];exact tm_put_same (by omega)
 obtain ⟨oz1,iz1,dz1,pz1,qz1⟩:=infoAt info49_2 (i:=1) rfl
 simp only at dz1 pz1 qz1
 rw [wpOpsIn_cons]
 refine opr_value iz1 (wanted_none qz1) (fun c h=>by rw [pz1] at h;cases h) (ex_makeB pz1 tz1_8) ?_
 rw [dz1]
 obtain ⟨az2,haz2⟩:∃ zz:Act,zz=Act.put az1 (some 9) (.func (.func 81) #[.agg #[x0,x1,x2,x3,x4,x5,x6,x7]] #[]):=⟨_,rfl⟩
 rw [<- haz2]
 have zz2:az2.tmps.size=25:=by rw [haz2,size_put];exact zz1
 have tz1_2:tm az1 2 = .pointer (some ⟨W.heap.size,0,none⟩):=by rw [haz1,tm_put_other (by omega)];exact ty1_2
 have tz2_2:tm az2 2 = .pointer (some ⟨W.heap.size,0,none⟩):=by rw [haz2,tm_put_other (by omega)];exact tz1_2
 obtain ⟨oz2,iz2,dz2,pz2,qz2⟩:=infoAt info49_2 (i:=2) rfl
 simp only at dz2 pz2 qz2
 rw [wpOpsIn_cons]
 refine opr_value iz2 (wanted_none qz2) (fun c h=>by rw [pz2] at h;cases h) (ex_load86 pz2 tz2_2 c1) ?_
 rw [dz2]
 obtain ⟨az3,haz3⟩:∃ zz:Act,zz=Act.put az2 (some 10) (.agg #[x0,x1,x2,x3,x4,x5,x6,x7]):=⟨_,rfl⟩
 rw [<- haz3]
 have zz3:az3.tmps.size=25:=by rw [haz3,size_put];exact zz2
 have tz3_10:tm az3 10 = .agg #[x0,x1,x2,x3,x4,x5,x6,x7]:=by rw [haz3];exact tm_put_same (by omega)
 obtain ⟨oz3,iz3,dz3,pz3,qz3⟩:=infoAt info49_2 (i:=3) rfl
 simp only at dz3 pz3 qz3
 rw [wpOpsIn_cons]
 refine opr_value iz3 (wanted_none qz3) (fun c h=>by rw [pz3] at h;cases h) (ex_makeB pz3 tz3_10) ?_
 rw [dz3]
 obtain ⟨az4,haz4⟩:∃ zz:Act,zz=Act.put az3 (some 11) (.func (.func 82) #[.agg #[x0,x1,x2,x3,x4,x5,x6,x7]] #[]):=⟨_,rfl⟩
 rw [<- haz4]
 have zz4:az4.tmps.size=25:=by rw [haz4,size_put];exact zz3
 have tz3_2:tm az3 2 = .pointer (some ⟨W.heap.size,0,none⟩):=by rw [haz3,tm_put_other (by omega)];exact tz2_2
 have tz4_2:tm az4 2 = .pointer (some ⟨W.heap.size,0,none⟩):=by rw [haz4,tm_put_other (by omega)];exact tz3_2
 obtain ⟨oz4,iz4,dz4,pz4,qz4⟩:=infoAt info49_2 (i:=4) rfl
 simp only at dz4 pz4 qz4
 rw [wpOpsIn_cons]
 refine opr_value iz4 (wanted_none qz4) (fun c h=>by rw [pz4] at h;cases h) (ex_load86 pz4 tz4_2 c1) ?_
 rw [dz4]
 obtain ⟨az5,haz5⟩:∃ zz:Act,zz=Act.put az4 (some 12) (.agg #[x0,x1,x2,x3,x4,x5,x6,x7]):=⟨_,rfl⟩
 rw [<- haz5]
 have zz5:az5.tmps.size=25:=by rw [haz5,size_put];exact zz4
 have tz5_12:tm az5 12 = .agg #[x0,x1,x2,x3,x4,x5,x6,x7]:=by rw [haz5];exact tm_put_same (by omega)
 obtain ⟨oz5,iz5,dz5,pz5,qz5⟩:=infoAt info49_2 (i:=5) rfl
 simp only at dz5 pz5 qz5
 rw [wpOpsIn_cons]
 refine opr_value iz5 (wanted_none qz5) (fun c h=>by rw [pz5] at h;cases h) (ex_makeB pz5 tz5_12) ?_
 rw [dz5]
 obtain ⟨az6,haz6⟩:∃ zz:Act,zz=Act.put az5 (some 13) (.func (.func 83) #[.agg #[x0,x1,x2,x3,x4,x5,x6,x7]] #[]):=⟨_,rfl⟩
 rw [<- haz6]
 have zz6:az6.tmps.size=25:=by rw [haz6,size_put];exact zz5
 have tz2_9:tm az2 9 = .func (.func 81) #[.agg #[x0,x1,x2,x3,x4,x5,x6,x7]] #[]:=by rw [haz2];exact tm_put_same (by omega)
 have tz3_9:tm az3 9 = .func (.func 81) #[.agg #[x0,x1,x2,x3,x4,x5,x6,x7]] #[]:=by rw [haz3,tm_put_other (by omega)];exact tz2_9
 have tz4_9:tm az4 9 = .func (.func 81) #[.agg #[x0,x1,x2,x3,x4,x5,x6,x7]] #[]:=by rw [haz4,tm_put_other (by omega)];exact tz3_9
 have tz5_9:tm az5 9 = .func (.func 81) #[.agg #[x0,x1,x2,x3,x4,x5,x6,x7]] #[]:=by rw [haz5,tm_put_other (by omega)];exact tz4_9
 have tz6_9:tm az6 9 = .func (.func 81) #[.agg #[x0,x1,x2,x3,x4,x5,x6,x7]] #[]:=by rw [haz6,tm_put_other (by omega)];exact tz5_9
 have tz4_11:tm az4 11 = .func (.func 82) #[.agg #[x0,x1,x2,x3,x4,x5,x6,x7]] #[]:=by rw [haz4];exact tm_put_same (by omega)
 have tz5_11:tm az5 11 = .func (.func 82) #[.agg #[x0,x1,x2,x3,x4,x5,x6,x7]] #[]:=by rw [haz5,tm_put_other (by omega)];exact tz4_11
 have tz6_11:tm az6 11 = .func (.func 82) #[.agg #[x0,x1,x2,x3,x4,x5,x6,x7]] #[]:=by rw [haz6,tm_put_other (by omega)];exact tz5_11
 have tz6_13:tm az6 13 = .func (.func 83) #[.agg #[x0,x1,x2,x3,x4,x5,x6,x7]] #[]:=by rw [haz6];exact tm_put_same (by omega)
 obtain ⟨oz6,iz6,dz6,pz6,qz6⟩:=infoAt info49_2 (i:=6) rfl
 simp only at dz6 pz6 qz6
 rw [wpOpsIn_cons]
 refine opr_value iz6 (wanted_none qz6) (fun c h=>by rw [pz6] at h;cases h) (ex_build123 pz6 tz6_9 tz6_11 tz6_13) ?_
 rw [dz6]
 obtain ⟨az7,haz7⟩:∃ zz:Act,zz=Act.put az6 (some 14) (.agg #[.func (.func 81) #[.agg #[x0,x1,x2,x3,x4,x5,x6,x7]] #[],.func (.func 82) #[.agg #[x0,x1,x2,x3,x4,x5,x6,x7]] #[],.func (.func 83) #[.agg #[x0,x1,x2,x3,x4,x5,x6,x7]] #[]]):=⟨_,rfl⟩
 rw [<- haz7]
 have zz7:az7.tmps.size=25:=by rw [haz7,size_put];exact zz6
 obtain ⟨oz7,iz7,dz7,pz7,qz7⟩:=infoAt info49_2 (i:=7) rfl
 simp only at dz7 pz7 qz7
 rw [wpOpsIn_cons]
 refine opr_value iz7 (wanted_none qz7) (fun c h=>by rw [pz7] at h;cases h) (ex_moveC pz7) ?_
 rw [dz7]
 obtain ⟨az8,haz8⟩:∃ zz:Act,zz=Act.put az7 (some 15) (.int .i64 0):=⟨_,rfl⟩
 rw [<- haz8]
 have zz8:az8.tmps.size=25:=by rw [haz8,size_put];exact zz7
 have tz1_1:tm az1 1 = .int .i64 line:=by rw [haz1,tm_put_other (by omega)];exact ty1_1
 have tz2_1:tm az2 1 = .int .i64 line:=by rw [haz2,tm_put_other (by omega)];exact tz1_1
 have tz3_1:tm az3 1 = .int .i64 line:=by rw [haz3,tm_put_other (by omega)];exact tz2_1
 have tz4_1:tm az4 1 = .int .i64 line:=by rw [haz4,tm_put_other (by omega)];exact tz3_1
 have tz5_1:tm az5 1 = .int .i64 line:=by rw [haz5,tm_put_other (by omega)];exact tz4_1
 have tz6_1:tm az6 1 = .int .i64 line:=by rw [haz6,tm_put_other (by omega)];exact tz5_1
 have tz7_1:tm az7 1 = .int .i64 line:=by rw [haz7,tm_put_other (by omega)];exact tz6_1
 have tz8_1:tm az8 1 = .int .i64 line:=by rw [haz8,tm_put_other (by omega)];exact tz7_1
 have tz1_5:tm az1 5 = .int .i64 0:=by rw [haz1,tm_put_other (by omega)];exact ty1_5
 have tz2_5:tm az2 5 = .int .i64 0:=by rw [haz2,tm_put_other (by omega)];exact tz1_5
 have tz3_5:tm az3 5 = .int .i64 0:=by rw [haz3,tm_put_other (by omega)];exact tz2_5
 have tz4_5:tm az4 5 = .int .i64 0:=by rw [haz4,tm_put_other (by omega)];exact tz3_5
 have tz5_5:tm az5 5 = .int .i64 0:=by rw [haz5,tm_put_other (by omega)];exact tz4_5
 have tz6_5:tm az6 5 = .int .i64 0:=by rw [haz6,tm_put_other (by omega)];exact tz5_5
 have tz7_5:tm az7 5 = .int .i64 0:=by rw [haz7,tm_put_other (by omega)];exact tz6_5
 have tz8_5:tm az8 5 = .int .i64 0:=by rw [haz8,tm_put_other (by omega)];exact tz7_5
 have tz7_14:tm az7 14 = .agg #[.func (.func 81) #[.agg #[x0,x1,x2,x3,x4,x5,x6,x7]] #[],.func (.func 82) #[.agg #[x0,x1,x2,x3,x4,x5,x6,x7]] #[],.func (.func 83) #[.agg #[x0,x1,x2,x3,x4,x5,x6,x7]] #[]]:=by rw [haz7];exact tm_put_same (by omega)
 have tz8_14:tm az8 14 = .agg #[.func (.func 81) #[.agg #[x0,x1,x2,x3,x4,x5,x6,x7]] #[],.func (.func 82) #[.agg #[x0,x1,x2,x3,x4,x5,x6,x7]] #[],.func (.func 83) #[.agg #[x0,x1,x2,x3,x4,x5,x6,x7]] #[]]:=by rw [haz8,tm_put_other (by omega)];exact tz7_14
 have tz8_15:tm az8 15 = .int .i64 0:=by rw [haz8];exact tm_put_same (by omega)
 have hd:az8.defers=[]:=by rw [haz8,defers_put,haz7,defers_put,haz6,defers_put,haz5,defers_put,haz4,defers_put,haz3,defers_put,haz2,defers_put,haz1,defers_put,hay1,defers_put,hax2,defers_put,hax1,defers_put];exact hd0
 have B0:B49 (.agg #[x0,x1,x2,x3,x4,x5,x6,x7]) line W 0 0 az8 w1:=⟨zz8,hd,tz8_1,tz8_5,tz8_14,tz8_15,hb1⟩
 refine wpIn_block (wpIn_loop_rounds 4 ?_)
 rw [roundsIn_succ]
 refine round49 (g:=81) (by omega) (by kernel_rfl) rfl (fun w hw=>call_int c81 hI hu hlt h1 hw) B0 fun a1 w2 B1=>?_
 show Code.roundsIn (fen none) 0 Tryz.prog lb49 _ 3 a1 w2
 rw [roundsIn_succ]
 refine round49 (g:=82) (by omega) (by kernel_rfl) rfl (fun w hw=>call_int c82 hI hu hlt h2 hw) B1 fun a2 w3 B2=>?_
 show Code.roundsIn (fen none) 0 Tryz.prog lb49 _ 2 a2 w3
 rw [roundsIn_succ]
 refine round49 (g:=83) (by omega) (by kernel_rfl) rfl (fun w hw=>call_int c83 hI hu hlt h3 hw) B2 fun a3 w4 B3=>?_
 show Code.roundsIn (fen none) 0 Tryz.prog lb49 _ 1 a3 w4
 rw [roundsIn_succ]
 show Code.wpIn (fen none) 0 Tryz.prog (.seq (.region 3 r49_3 false) (.seq (.cond (.tmp 16) .skip (.exit 0)) (.seq (.block 1 (.seq (.region 4 r49_4 false) (.region 5 r49_5 false))) (.region 6 r49_6 false)))) _ a3 w4
 have hsz3:=B3.sz
 refine wpIn_seq ?_
 refine wpIn_region ?_
 rw [show r49_3.size=1 by kernel_rfl]
 show wpOpsIn (fen none) 0 Tryz.prog r49_3 _ [0] a3 w4
 obtain ⟨os0,is0,ds0,ps0,qs0⟩:=infoAt info49_3 (i:=0) rfl
 simp only at ds0 ps0 qs0
 rw [wpOpsIn_cons]
 refine opr_value is0 (wanted_none qs0) (fun c h=>by rw [ps0] at h;cases h) (ex_ltK ps0 B3.t15) ?_
 rw [ds0]
 obtain ⟨as1,has1⟩:∃ zz:Act,zz=Act.put a3 (some 16) (.bool (decide (((3:Nat):Int)<3))):=⟨_,rfl⟩
 rw [<- has1]
 have zs1:as1.tmps.size=25:=by rw [has1,size_put];exact hsz3
 refine wpIn_seq ?_
 have ts1_16:tm as1 16 = .bool (decide (((3:Nat):Int)<3)):=by rw [has1];exact tm_put_same (by omega)
 have hlt:tm as1 16 = .bool false:=by rw [ts1_16];rfl
 refine wpIn_cond (t:=false) hlt ?_
 simp only [Bool.false_eq_true,if_false]
 refine wpIn_exit ?_
 show Code.wpIn (fen none) 0 Tryz.prog (.seq (.region 7 r49_7 false) .ret) _ as1 w4
 refine wpIn_seq ?_
 have ts1_5:tm as1 5 = .int .i64 (IntKind.i64.wrap (IntKind.i64.wrap (IntKind.i64.wrap (0+p)+q)+s)):=by rw [has1,tm_put_other (by omega)];exact B3.t5
 refine wpIn_region ?_
 rw [show r49_7.size=2 by kernel_rfl]
 show wpOpsIn (fen none) 0 Tryz.prog r49_7 _ [0,1] as1 w4
 obtain ⟨ov0,iv0,dv0,pv0,qv0⟩:=infoAt info49_7 (i:=0) rfl
 simp only at dv0 pv0 qv0
 rw [wpOpsIn_cons]
 refine opr_value iv0 (wanted_none qv0) (fun c h=>by rw [pv0] at h;cases h) (ex_move pv0) ?_
 rw [dv0,ts1_5]
 obtain ⟨av1,hav1⟩:∃ zz:Act,zz=Act.put as1 (some 24) (.int .i64 (IntKind.i64.wrap (IntKind.i64.wrap (IntKind.i64.wrap (0+p)+q)+s))):=⟨_,rfl⟩
 rw [<- hav1]
 have zv1:av1.tmps.size=25:=by rw [hav1,size_put];exact zs1
 have tv1_24:tm av1 24 = .int .i64 (IntKind.i64.wrap (IntKind.i64.wrap (IntKind.i64.wrap (0+p)+q)+s)):=by rw [hav1];exact tm_put_same (by omega)
 obtain ⟨ov1,iv1,dv1,pv1,qv1⟩:=infoAt info49_7 (i:=1) rfl
 simp only at dv1 pv1 qv1
 rw [wpOpsIn_cons]
 refine opr_value iv1 (wanted_none qv1) (fun c h=>by rw [pv1] at h;cases h) (ex_assign pv1) ?_
 rw [dv1,tv1_24]
 obtain ⟨av2,hav2⟩:∃ zz:Act,zz=Act.put av1 (some 4) (.int .i64 (IntKind.i64.wrap (IntKind.i64.wrap (IntKind.i64.wrap (0+p)+q)+s))):=⟨_,rfl⟩
 rw [<- hav2]
 have zv2:av2.tmps.size=25:=by rw [hav2,size_put];exact zv1
 have tv2_4:tm av2 4 = .int .i64 (IntKind.i64.wrap (IntKind.i64.wrap (IntKind.i64.wrap (0+p)+q)+s)):=by rw [hav2];exact tm_put_same (by omega)
 refine wpIn_ret ?_
 show LeavesInM (fen none) 0 Tryz.prog Tryz.f49 av2.tmps _ av2.defers .returning w4
 have hdv:av2.defers=[]:=by rw [hav2,defers_put,hav1,defers_put,has1,defers_put];exact B3.df
 rw [hdv]
 refine leave_marks (q:=fun _=>False) (by simp) trivial fun w5 hm=>?_
 refine ⟨_,results49,by rw [tv2_4],?_⟩
 have h6:=B3.bl
 exact ⟨hm.os.trans h6.os,hm.tape.trans h6.tape,hm.output.trans h6.output,Nat.le_trans h6.size hm.size,fun k hk=>(hm.block k ⟨Nat.lt_of_lt_of_le hk h6.size,fun h=>h.elim⟩).trans (h6.block k hk)⟩
theorem c49:Contract Tryz.prog sp49:=contract_ret rfl f49_pan fun x M w vs r hr hI hvs hlt=>by
 obtain ⟨acc,line,⟨⟩⟩:=x
 obtain ⟨v,rest,e1,hv,v2,rest2,e2,⟨cs,e3,e4⟩,e5⟩:=hvs
 have e5:rest2=[]:=e5
 have e4:cs=[.int .i64 line]:=e4
 subst e5 e2 e4
 have hvs:vs = #[v,.int .i64 line]:=by apply Array.ext';rw [e1,e3];rfl
 subst hvs
 refine (owed_calls hI hv hlt hr).mono ?_
 rintro e w' ⟨rfl,hb⟩
 exact ⟨_,rfl,hb,resOK_flat hb hlt fun M'=>⟨[_],rfl,rfl⟩⟩
end Go.V
namespace Go.V
section
variable {P : Program} {ro : Option Nat} {n : Nat} {ops : Array Oper} {Q : Exit → Act → World → Prop}
theorem inv_any {I:(Nat->Bool)->Act->World->Prop} (he:early ops=true)
 (hstep:∀ L a w i o,I L a w->ops[i]? = some o->L i=false->(∀ j,waits ops j i=true->L j=true)->wpOpIn (fen ro) n P ops Q i (fun a' w'=>I (fun k=>L k || k==i) a' w') a w)
 (hfin:∀ L a w,I L a w->(∀ i,i<ops.size->L i=true)->Q .normal a w) :
 ∀ (fuel:Nat) (L:Array Bool) (a:Act) (w:World),L.size=ops.size->L.toList.countP (!·)<=fuel->I (fun i=>L.getD i false) a w->wpAnyIn (fen ro) n P .any ops Q fuel L a w:=by
 have hend:∀ (L:Array Bool) (a:Act) (w:World),L.size=ops.size->Region.ready .any ops L=[]->I (fun i=>L.getD i false) a w->Q .normal a w :=
  fun L a w hs hr hc=>hfin _ a w hc fun i hi=>ready_all he hs hr (i+1) i (by omega) hi
 intro fuel
 induction fuel with
 | zero =>
  intro L a w hs hct hc
  have hr:Region.ready .any ops L=[]:=by
   apply List.eq_nil_iff_forall_not_mem.2
   intro i hi
   obtain ⟨h1,h2,_⟩:=ready_mem hi
   have hlt:i<L.size:=by omega
   have h3:L[i]=false:=by simpa [hlt] using h2
   have:0<L.toList.countP (!·):=List.countP_pos_iff.2 ⟨L[i],by simp,by rw [h3];rfl⟩
   omega
  exact ⟨hr,hend L a w hs hr hc⟩
 | succ fuel ih =>
  intro L a w hs hct hc
  refine ⟨fun hr=>hend L a w hs hr hc,fun i hi=>?_⟩
  obtain ⟨h1,h2,h3⟩:=ready_mem hi
  have hltL:i<L.size:=by omega
  have hfalse:L[i]=false:=by simpa [hltL] using h2
  have hnot:L.getD i false=false:=by simpa [hltL] using hfalse
  obtain ⟨o,ho⟩:∃ o,ops[i]? = some o:=⟨ops[i],by simp [h1]⟩
  refine wpOpIn_mono (fun a' w' h=>ih _ a' w' (by simp [hs]) ?_ ?_) (hstep _ a w i o hc ho hnot h3)
  . have h4:=count_set L.toList i (by simp [hltL,hfalse])
    have:(L.setIfInBounds i true).toList=L.toList.set i true:=by simp
    rw [this]
    omega
  . have hfn:(fun j=>(L.setIfInBounds i true).getD j false)=fun j=>L.getD j false || j==i:=funext fun j=>getD_set hltL
    rw [hfn]
    exact h
theorem region_inv {I:(Nat->Bool)->Act->World->Prop} (hm:P.follows .mixedOrders=true) (he:early ops=true) {a:Act} {w:World} {id:Nat} (h0:I (fun _=>false) a w.drew)
 (hstep:∀ L a w i o,I L a w->ops[i]? = some o->L i=false->(∀ j,waits ops j i=true->L j=true)->wpOpIn (fen ro) n P ops Q i (fun a' w'=>I (fun k=>L k || k==i) a' w') a w)
 (hfin:∀ L a w,I L a w->(∀ i,i<ops.size->L i=true)->Q .normal a w):(Code.region id ops true).wpIn (fen ro) n P Q a w:=by
 refine wpIn_region_any hm (inv_any he hstep hfin _ _ _ _ (by simp) ?_ ?_)
 . exact Nat.le_trans List.countP_le_length (by simp)
 . have:(fun i=>(Array.replicate ops.size false).getD i false)=fun _=>false:=funext fun i=>by
    simp only [Array.getD_eq_getD_getElem?,Array.getElem?_replicate]
    split<;>rfl
   rw [this]
   exact h0
end
end Go.V
