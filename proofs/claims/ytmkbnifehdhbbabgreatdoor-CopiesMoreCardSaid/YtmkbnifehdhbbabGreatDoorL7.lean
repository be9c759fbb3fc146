/- What law 7 of the copies needs beyond what all laws need: functions read, and the plain law. -/
import Derived.Test.YtmkbnifehdhbbabGreatDoorQL
import Derived.Test.YtmkbnifehdhbbabGreatDoorCR2
import Derived.Test.YtmkbnifehdhbbabGreatDoorCRA
set_option linter.all false
noncomputable section
namespace Go.V
section
variable {ρ : Type} (P : Program) (Φ : Nat → List Spec) (hints : List (Nat × List Nat)) (N : Nat)
end
def markOf (fn:Nat):Spec:=⟨fn,.call,.unit,.unit,false,false,fun _=>.fail⟩
theorem mark_ok {P:Program} [Inv P] (fn:Nat):Contract P (markOf fn):=fun _ _ _ _ _ _ _=>trivial
end Go.V
namespace Go.V
open Go.Proofs
def specs13:List Spec:=[]
def hints13:List (Nat×List Nat):=[(2,[1,3])]
def L13_0 (N:Nat) (n_L13_0:Nat) (x:lt1) (i_1:Int):Out Bool :=
 vloop Tryz.prog (phi specs13) hints13 N Tryz.f12 false false .bool [.at 1,.at 0,.at 1,.at 0] n_L13_0 [U,.box [.d (.int .i64) x.1.1,.d ty0 x.1.2.1],U,.d (.int .i64) i_1,U,U,U,U,U,U,U,U,U,U,U,U,U,U,U,U,U,U,U,U,U,U,U]
theorem L13_0_succ (N:Nat) (n_L13_0:Nat) (x:lt1) (i_1:Int):L13_0 N  (n_L13_0+1) x i_1 =
 (match (decide (i_1<(lenI x.1.2.1))) with|true=>(match (decide (i_1<10)) with|true=>bif (inb i_1 x.1.2.1.length) then match (decide ((lenI ((List.getD x.1.2.1 i_1.toNat (0,([],())))).2.1) > 5)) with|true=>.ret false|false=>L13_0 N n_L13_0 x (IntKind.i64.wrap (i_1+1)) else .fail|false=>.ret (decide ((lenI x.1.2.1)<=10)))|false=>.ret (decide ((lenI x.1.2.1)<=10)):Out Bool):=by kernel_rfl
def F13 (N:Nat) (x:lt1):Out Bool:=L13_0 N N x 0
theorem e13 (N:Nat) (x:lt1):vfn Tryz.prog (phi specs13) hints13 N Tryz.f12 false false ty2 .bool x=F13 N x:=by kernel_rfl
def f13 (x:lt1):Out Bool:=F13 fuel x
def sp13:Spec:=⟨12,.call,ty2,.bool,false,false,f13⟩
theorem c13:Contract Tryz.prog sp13:=contract_at (l:=specs13) (arg:=ty2) (res:=.bool) (multi:=false) (own:=false) (F:=f13) mixed all_nil Tryz.func12 rfl hints13 fun x _=>⟨fuel,e13 fuel x⟩
def specs61:List Spec:=[]
def hints61:List (Nat×List Nat):=[]
theorem e61 (N:Nat) (x:(Int×(Int×(Int×Unit)))):vfn Tryz.prog (phi specs61) hints61 N Tryz.f60 false false ty10 .bool x=F61 N x:=by kernel_rfl
theorem c61:Contract Tryz.prog sp61:=contract_at (l:=specs61) (arg:=ty10) (res:=.bool) (multi:=false) (own:=false) (F:=f61) mixed all_nil Tryz.func60 rfl hints61 fun x _=>⟨fuel,e61 fuel x⟩
def specs18:List Spec:=[sp61]
def hints18:List (Nat×List Nat):=[]
def F18 (N:Nat) (x:lt4):Out Bool:=match f61 (x.2.1,(0,((IntKind.i64.wrap ((lenI x.1.2.1) - 1)),()))) with | .ret r=>.ret r | .pan p=>.pan p | .fail=>.fail
theorem e18 (N:Nat) (x:lt4):vfn Tryz.prog (phi specs18) hints18 N Tryz.f29 false false ty6 .bool x=F18 N x:=by kernel_rfl
def f18 (x:lt4):Out Bool:=F18 fuel x
def sp18:Spec:=⟨29,.call,ty6,.bool,false,false,f18⟩
theorem c18:Contract Tryz.prog sp18:=contract_at (l:=specs18) (arg:=ty6) (res:=.bool) (multi:=false) (own:=false) (F:=f18) mixed (all_cons c61 all_nil) Tryz.func29 rfl hints18 fun x _=>⟨fuel,e18 fuel x⟩
def specs39:List Spec:=[sp61]
def hints39:List (Nat×List Nat):=[]
def F39 (N:Nat) (x:lt4):Out Bool:=match f61 (x.2.1,(0,((IntKind.i64.wrap (x.1.1 - 1)),()))) with | .ret r=>.ret r | .pan p=>.pan p | .fail=>.fail
theorem e39 (N:Nat) (x:lt4):vfn Tryz.prog (phi specs39) hints39 N Tryz.f30 false false ty6 .bool x=F39 N x:=by kernel_rfl
def f39 (x:lt4):Out Bool:=F39 fuel x
def sp39:Spec:=⟨30,.call,ty6,.bool,false,false,f39⟩
theorem c39:Contract Tryz.prog sp39:=contract_at (l:=specs39) (arg:=ty6) (res:=.bool) (multi:=false) (own:=false) (F:=f39) mixed (all_cons c61 all_nil) Tryz.func30 rfl hints39 fun x _=>⟨fuel,e39 fuel x⟩
def specs46:List Spec:=[sp61]
def hints46:List (Nat×List Nat):=[]
theorem e46 (N:Nat) (x:(Int×Unit)):vfn Tryz.prog (phi specs46) hints46 N Tryz.f31 false false (.prod (.int .i64) .unit) .bool x=F46 N x:=by kernel_rfl
theorem c46:Contract Tryz.prog sp46:=contract_at (l:=specs46) (arg:=(.prod (.int .i64) .unit)) (res:=.bool) (multi:=false) (own:=false) (F:=f46) mixed (all_cons c61 all_nil) Tryz.func31 rfl hints46 fun x _=>⟨fuel,e46 fuel x⟩
theorem e17 (N:Nat) (x:lt1):vfn Tryz.prog (phi specs17) hints17 N Tryz.f15 false false ty2 .bool x=F17 N x:=by kernel_rfl
def sp17:Spec:=⟨15,.call,ty2,.bool,false,false,f17⟩
theorem c17:Contract Tryz.prog sp17:=contract_at (l:=specs17) (arg:=ty2) (res:=.bool) (multi:=false) (own:=false) (F:=f17) mixed (all_cons c61 (all_cons c46 all_nil)) Tryz.func15 rfl hints17 fun x _=>⟨fuel,e17 fuel x⟩
def specs22:List Spec:=[sp13,sp17]
def hints22:List (Nat×List Nat):=[]
def F22 (N:Nat) (x:lt1):Out Bool:=match f13 (x.1,()) with | .ret r_1=>(match r_1 with|true=>(match f17 (x.1,()) with | .ret r=>.ret r | .pan p=>.pan p | .fail=>.fail)|false=>.ret false) | .pan p=>.pan p | .fail=>.fail
theorem e22 (N:Nat) (x:lt1):vfn Tryz.prog (phi specs22) hints22 N Tryz.f19 false false ty2 .bool x=F22 N x:=by kernel_rfl
def f22 (x:lt1):Out Bool:=F22 fuel x
def sp22:Spec:=⟨19,.call,ty2,.bool,false,false,f22⟩
theorem c22:Contract Tryz.prog sp22:=contract_at (l:=specs22) (arg:=ty2) (res:=.bool) (multi:=false) (own:=false) (F:=f22) mixed (all_cons c13 (all_cons c17 all_nil)) Tryz.func19 rfl hints22 fun x _=>⟨fuel,e22 fuel x⟩
end Go.V
namespace Go.V
theorem errs_at {t:TREE} {place:Int} (h:Ground (madeT t) place) {l:List Int} (hl:Best t place l):errsT t place=costV t l:=by
 obtain ⟨l',h1,h2⟩:=errs_eq h;have:=h1.few l hl.vc;have:=hl.few l' h1.vc;omega
end Go.V
namespace Go.V
open Go.Proofs
theorem f13_at (t:TREE):∃ b,f13 (t,()) = .ret b:=by
 have hfb:=fuel_big;unfold f13 F13;have done:∀ n i:Nat,¬ (i:Int)<t.2.1.length\/¬ i<10->∃ b,L13_0 fuel (n+1) (t,()) i = .ret b:=fun n i h=>by
  rw [L13_0_succ]
  try delta lenI
  by_cases h1:(i:Int)<t.2.1.length
  . have h2:¬ (i:Int)<10:=by rcases h with h|h<;>omega
    simp only [dT h1,dF h2];exact ⟨_,rfl⟩
  . simp only [dF h1];exact ⟨_,rfl⟩
 have loop:∀ (d n i:Nat),d<n->i+d=10->∃ b,L13_0 fuel n (t,()) i = .ret b:=by
  intro d
  induction d with
  | zero =>
   intro n i hn hi;obtain ⟨n,rfl⟩:=succ_of hn;exact done n i (.inr (by omega))
  | succ d ih =>
   intro n i hn hi;obtain ⟨n,rfl⟩:=succ_of hn
   by_cases h1:(i:Int)<t.2.1.length
   . rw [L13_0_succ]
     try delta lenI
     simp only [dT h1,dT (show (i:Int)<10 by omega),inbT (show (0:Int)<=i by omega) h1,cond_true,wn (show i<1000000000 by omega)];split
     . exact ⟨_,rfl⟩
     . exact ih n (i+1) (by omega) (by omega)
   . exact done n i (.inl h1)
 exact loop 10 fuel 0 (by omega) (by omega)
theorem f18_at {t:TREE} (n:Int) (h:t.2.1.length<1000000):f18 (t,(n,())) = .ret (decide (0<=n/\n<t.2.1.length)):=by
 unfold f18 F18
 try delta lenI
 simp only [i61];rw [wr (by omega) (by omega)]
 by_cases h1:0<=n/\n<t.2.1.length
 . rw [dT h1,dT (by omega)]
 . rw [dF h1,dF (by omega)]
end Go.V
namespace Go.V
open Go.Proofs
theorem f22_at (t:TREE):f22 (t,()) = .ret false\/(f22 (t,()) = .ret true/\TreeOK t):=by
 obtain ⟨b,h⟩:=f13_at t;unfold f22 F22;cases b with
 | false=>simp only [h];exact .inl trivial
 | true =>
  simp only [h];rcases tree_ret (t:=t) with ⟨h1,h2,_⟩|⟨h1,h2,_⟩
  . simp only [h2];exact .inr ⟨trivial,h1⟩
  . simp only [h2];exact .inl trivial
end Go.V
namespace Go.V
open Go.Proofs
theorem f39_at {t:TREE} (ht:TreeOK t) (p:Int):f39 (t,(p,())) = .ret (decide (0<=p/\p<t.1)):=by
 have:=ht.places;unfold f39 F39;simp only [i61];rw [wr (by omega) (by omega)]
 by_cases h1:0<=p/\p<t.1
 . rw [dT h1,dT (by omega)]
 . rw [dF h1,dF (by omega)]
end Go.V
namespace Go.V
open Go.Proofs
open Go.RowKit (Below)
theorem cell_in {w:World} {b o:Nat} {v:Value} (h:w.cell? ⟨b,o,none⟩=some v):b<w.heap.size:=by
 rcases Nat.lt_or_ge b w.heap.size with h'|h'
 . exact h'
 . simp [World.cell?,Array.getElem?_eq_none h'] at h
end Go.V
namespace Go.V
open Go.Proofs
open Go.RowKit (Below)
abbrev NDT:Ty:=.prod (.int .i64) ty14
def r44_2:Array Oper:=regAt 2 (bodyOf Tryz.f33)
def r44_3:Array Oper:=regAt 3 (bodyOf Tryz.f33)
def r44_4:Array Oper:=regAt 4 (bodyOf Tryz.f33)
theorem info44_2:r44_2.toList.map opInfo=[(some 13,.fieldAddr 24 (.tmp 4) 1,none),(some 14,.load 22 (.tmp 13),none),(some 15,.move (.tmp 1),none),(some 16,.fieldAddr 24 (.tmp 4) 1,none),(some 17,.load 22 (.tmp 16),none),(some 18,.move (.tmp 1),none),(some 19,.indexAddr 22 (.tmp 17) (.tmp 18),none),
 (some 20,.fieldAddr 69 (.tmp 19) 1,none),(some 21,.load 25 (.tmp 20),none),(some 22,.call { callee:=.builtin .append,args := #[.const (.slice none 0 0),.tmp 21],argTypes := #[25,25] },none),(some 23,.indexAddr 22 (.tmp 14) (.tmp 15),none),(some 24,.fieldAddr 69 (.tmp 23) 1,none),(none,.store 25 (.tmp 24) (.tmp 22),none)]:=by kernel_rfl
theorem info44_3:r44_3.toList.map opInfo=[(some 25,.fieldAddr 24 (.tmp 4) 1,none),(some 26,.load 22 (.tmp 25),none),(some 27,.move (.tmp 1),none),(some 28,.indexAddr 22 (.tmp 26) (.tmp 27),none),(some 29,.fieldAddr 69 (.tmp 28) 1,none),(some 30,.load 25 (.tmp 29),none),(some 31,.move (.tmp 2),none),
 (some 32,.move (.tmp 3),none),(some 33,.indexAddr 25 (.tmp 30) (.tmp 31),none),(none,.store 3 (.tmp 33) (.tmp 32),none)]:=by kernel_rfl
theorem info44_4:r44_4.toList.map opInfo=[(some 34,.load 24 (.tmp 4),none),(none,.store 24 (.tmp 8) (.tmp 34),none)]:=by kernel_rfl
def tail44:Code:=.seq (.region 2 r44_2 true) (.seq (.region 3 r44_3 false) (.seq (.region 4 r44_4 false) .ret))
def with44 (xs:List NODE) (ix pl fg:Int):List NODE:=xs.set ix.toNat ((xs.getD ix.toNat (0,([],()))).1,(((xs.getD ix.toNat (0,([],()))).2.1).set pl.toNat fg,()))
def st44 (p:Int) (xs:List NODE):St:=(List.replicate 35 S.und).set 8 (.box [.d (.int .i64) p,.d (.list NDT) xs])
def ok44 (xs:List NODE) (ix pl:Int):Bool:=inb ix xs.length && (inb pl ((xs.getD ix.toNat (0,([],()))).2.1).length && decide (((xs.getD ix.toNat (0,([],()))).2.1).length<1000000000))
def E44 {ρ:Type} (k:X->H0.σ->St->Out ρ) (s:H0.σ) (st:St):Out ρ :=
 match get st 4 with
 | .box [.d (.int .i64) p,.arr (.prod (.int .i64) (.prod (.list (.int .i64)) .unit)) xs _]=>(match get st 8 with
  | .box [.d (.int .i64) _,.own (.prod (.int .i64) (.prod (.list (.int .i64)) .unit)) _ _]=>(match get st 1 with
   | .d (.int .i64) ix=>(match get st 2 with
    | .d (.int .i64) pl=>(match get st 3 with
     | .d (.int .i64) fg=>bif st.length==35 && ok44 xs ix pl then k .ret s (st44 p (with44 xs ix pl fg)) else .fail
     | _=>.fail)
    | _=>.fail)
   | _=>.fail)
  | _=>.fail)
 | _=>.fail
theorem node_cells {M:Mut} {w:World} {cs:List Value} {x:NODE} (h:RepC M w NDT cs x):∃ u,cs=[.int .i64 x.1,u]/\RepC M w (.list (.int .i64)) [u] x.2.1:=by
 obtain ⟨c1,c2,rfl,h1,c3,c4,rfl,h2,h3⟩:=h;have e1:c1=[.int .i64 x.1]:=h1;have e4:c4=[]:=h3;have hl:c3.length=1:=RepC.length _ _ _ h2
 match c3,hl with
 | [u],_=>exact ⟨u,by rw [e1,e4];rfl,h2⟩
theorem node_rep {M:Mut} {w:World} {u:Value} {x:NODE} (h:RepC M w (.list (.int .i64)) [u] x.2.1):RepC M w NDT [.int .i64 x.1,u] x :=
 ⟨[.int .i64 x.1],[u],rfl,rfl,[u],[],rfl,h,rfl⟩
section
variable {a : Act} {w : World} {o : Oper}
theorem ex_index2 {T E:TypeId} {e:Ty} (hu:Tryz.prog.underlying T=some (.slice E)) (hE:tyOf Tryz.prog 9 E=some e) (hes:e.size=2) {p q:Nat} (ho:o.op = .indexAddr T (.tmp p) (.tmp q)) {R off n cap i:Nat} (h0:tm a p = .slice (some ⟨R,off,none⟩) n cap) (h1:tm a q = .int .i64 i) (hi:i<n) :
 (execOp a.eval o).run Tryz.prog w = .ok (.value (.pointer (some ⟨R,off+i * 2,none⟩))) w:=by
 have e0:a.eval (.tmp p) = .slice (some ⟨R,off,none⟩) n cap:=h0;have e1:a.eval (.tmp q) = .int .i64 i:=h1;have hi':(i:Int)<n:=by omega
 simp [execOp,ho,e0,e1,Instr.indexAt,asIntOf,run_underlying hu,run_sizeOf hE,add_lit,hi',hi,hes]
theorem ex_field24 {p:Nat} (ho:o.op = .fieldAddr 24 (.tmp p) 1) {b j:Nat} (h:tm a p = .pointer (some ⟨b,j,none⟩)):(execOp a.eval o).run Tryz.prog w = .ok (.value (.pointer (some ⟨b,j+1,none⟩))) w:=by
 have e:a.eval (.tmp p) = .pointer (some ⟨b,j,none⟩):=h;simp only [execOp,ho,e];simp [go_sem,add_lit]
theorem ex_field40 {p:Nat} (ho:o.op = .fieldAddr 69 (.tmp p) 1) {b j:Nat} (h:tm a p = .pointer (some ⟨b,j,none⟩)):(execOp a.eval o).run Tryz.prog w = .ok (.value (.pointer (some ⟨b,j+1,none⟩))) w:=by
 have e:a.eval (.tmp p) = .pointer (some ⟨b,j,none⟩):=h;simp only [execOp,ho,e];simp [go_sem,add_lit]
theorem ex_load24 {p:Nat} (ho:o.op = .load 24 (.tmp p)) {b T:Nat} {c0 c1:Value} (ht:tm a p = .pointer (some ⟨b,0,none⟩)) (hh:w.heap[b]? = some (.cells #[c0,c1] T (0,0))) :
 (execOp a.eval o).run Tryz.prog w = .ok (.value (.agg #[c0,c1])) w:=by
 have:=load_cells (P:=Tryz.prog) (n:=9) (T:=24) (t:=TREET) (w:=w) (b:=b) (off:=0) (us':=[]) (c1:=[c0,c1]) (by kernel_rfl) hh rfl rfl;have e1:a.eval (.tmp p) = .pointer (some ⟨b,0,none⟩):=ht;simp [execOp,ho,e1,Instr.loadAt,Instr.sureAddr,this,toVal,Ty.agg]
theorem ex_storeT24 {i j:Nat} (ho:o.op = .store 24 (.tmp i) (.tmp j)) {b T:Nat} {c0 c1 v0 v1:Value} (h1:tm a i = .pointer (some ⟨b,0,none⟩)) (h3:tm a j = .agg #[v0,v1]) (hh:w.heap[b]? = some (.cells #[c0,c1] T (0,0)))
 (ho1:∀ v∈[v0,v1],v.oneCell'=true):(execOp a.eval o).run Tryz.prog w = .ok .skip (w.setRow b #[v0,v1]):=by
 have e1:a.eval (.tmp i) = .pointer (some ⟨b,0,none⟩):=h1;have e3:a.eval (.tmp j) = .agg #[v0,v1]:=h3;have hrun:=run_storeVar (P:=Tryz.prog) (n:=9) (T:=24) (t:=TREET) (by kernel_rfl) (o:=0) (v:=.agg #[v0,v1]) rfl hh (by show 0+2<=2;omega) ho1
 simp only [execOp,ho,e1,e3,Instr.storeAt,Instr.sureAddr,Sem.run_bind,Sem.run_pure,Result.andThen_ok];rw [hrun];rfl
theorem ex_app0 {q:Nat} {l:List Int} {b off cap:Nat} (hl0:0<l.length) (hlen:l.length<1000000000) (ho:o.op = .call { callee:=.builtin .append,args := #[.const (.slice none 0 0),.tmp q],argTypes := #[25,25] }) (h1:tm a q = .slice (some ⟨b,off,none⟩) l.length cap)
 (hc:∀ j (h:j<l.length),w.cell? ⟨b,off+j,none⟩=some (.int .i64 l[j])) :
 ∃ cap' cur w1,(execOp a.eval o).run Tryz.prog w = .ok (.value (.slice (some ⟨w.heap.size,0,none⟩) l.length cap')) w1/\w1.heap[w.heap.size]? = some (.cells cur 3 (0,0))/\l.length<=cap'/\cur.size=cap'/\cur.toList.take l.length=intsV l/\w.grownBy w1 none:=by
 have e0:a.eval (.const (.slice none 0 0)) = .slice none 0 0:=rfl;have e1:a.eval (.tmp q) = .slice (some ⟨b,off,none⟩) l.length cap:=h1;have hil:(intsV l).length=l.length:=by simp [intsV]
 have hnews:∀ (j:Nat) u,(intsV l)[j]? = some u->w.cell? ((⟨b,off,none⟩:Addr).add j)=some u:=fun j u hj=>by
  have hjl:j<l.length:=by rw [<- hil];exact (List.getElem?_eq_some_iff.1 hj).1
  rw [add_lit,hc j hjl];rw [<- hj];simp [intsV,hjl]
 have hb8:((Tryz.prog.info? 3).getD default).bytes=8:=by kernel_rfl
 have hs1:((Tryz.prog.info? 3).getD default).size=1:=by kernel_rfl
 obtain ⟨v',w',g1,g2,g3,_⟩:=run_append_own (P:=Tryz.prog) w 0 25 o.type 3 ((Tryz.prog.info? 3).getD default) (.int .i64 0) 1 8 (by kernel_rfl) (by kernel_rfl) (by kernel_rfl) hs1 hb8 (by kernel_rfl) (by omega) (.slice none 0 0) 0 [] ⟨rfl,.inl ⟨rfl,rfl⟩⟩ ⟨b,off,none⟩ l.length cap (intsV l) (by rw [hil,Nat.mul_one]) hnews
  (fun u hu=>by unfold intsV at hu;obtain ⟨z,_,rfl⟩:=List.mem_map.1 hu;rfl) (by unfold maxLen;omega) (by omega) (by omega)
 have hr:=run_append_nil (P:=Tryz.prog) w 25 o.type 3 ((Tryz.prog.info? 3).getD default) (.int .i64 0) (by kernel_rfl) (by kernel_rfl) (by kernel_rfl) ⟨b,off,none⟩ l.length cap (intsV l) (by rw [hil,hs1,Nat.mul_one]) hnews hl0 (by omega) (by rw [hb8];omega)
 have g1':=g1;rw [hr] at g1';cases g1';rcases g2.2 with ⟨e,_⟩|⟨g,cp,cur,e,_,hg,hle,hm,hcs,htk⟩
 . cases e
 . rw [Nat.zero_add] at e hle htk;cases e;rw [Nat.mul_one] at hcs htk;refine ⟨_,cur,_,?_,hg,hle,hcs,htk,g3⟩;simp [execOp,ho,resolve,e0,e1,invoke,builtin,hr]
end
theorem calm_no {Q:Exit->Act->World->Prop}:∀ c a w,¬ calmQ Q (.panic c) a w:=fun _ _ _ h=>h
theorem opn_at {ops:Array Oper} {L:List (Option Tmp×Op×Option (Nat×Bool))} (hL:ops.toList.map opInfo=L) {i d:Nat} {op:Op} (hx:L[i]? = some (some d,op,none)) (hd:∀ c,op ≠ .defer c) {n:Nat} {Q:Exit->Act->World->Prop} {K:Act->World->Prop} {a:Act} {w w2:World} {v:Value}
 (hr:∀ o:Oper,o.op=op->(execOp a.eval o).run Tryz.prog w = .ok (.value v) w2) (hK:K (a.put (some d) v) w2):wpOpIn (fen none) n Tryz.prog ops Q i K a w:=by
 obtain ⟨o0,i0,d0,p0,q0⟩:=infoAt hL hx;simp only at d0 p0 q0;refine opn_value i0 (wanted_none q0) (fun c h=>hd c (p0.symm.trans h)) (hr o0 p0) ?_;rw [d0];exact hK
theorem opn_put {ops:Array Oper} {L:List (Option Tmp×Op×Option (Nat×Bool))} (hL:ops.toList.map opInfo=L) {i:Nat} {op:Op} (hx:L[i]? = some (none,op,none)) (hd:∀ c,op ≠ .defer c) {n:Nat} {Q:Exit->Act->World->Prop} {K:Act->World->Prop} {a:Act} {w w2:World}
 (hr:∀ o:Oper,o.op=op->(execOp a.eval o).run Tryz.prog w = .ok .skip w2) (hK:K a w2):wpOpIn (fen none) n Tryz.prog ops Q i K a w:=by
 obtain ⟨o0,i0,d0,p0,q0⟩:=infoAt hL hx;simp only at d0 p0 q0;refine opn_skipped i0 (wanted_none q0) (fun c h=>hd c (p0.symm.trans h)) (hr o0 p0) ?_;rw [d0,put_none];exact hK
theorem two_at {cells:Array Value} {j:Nat} {x y:Value} (h:(cells.toList.drop j).take 2=[x,y]):cells[j]? = some x/\cells[j+1]? = some y:=by
 have h0:((cells.toList.drop j).take 2)[0]? = some x:=by rw [h];rfl
 have h1:((cells.toList.drop j).take 2)[1]? = some y:=by rw [h];rfl
 rw [List.getElem?_take,if_pos (by omega),List.getElem?_drop] at h0 h1;exact ⟨by simpa using h0,by simpa using h1⟩
theorem row_at {M:Mut} {w:World} {v:Value} {xs:List NODE} (h:ArrAt M w NDT v xs) (hpos:0<xs.length):∃ R cap cells T,v = .slice (some ⟨R,0,none⟩) xs.length cap/\w.heap[R]? = some (.cells cells T (0,0))/\xs.length<=cap/\cells.size=cap * 2/\(∀ o,M R o) /\
 ∀ j (hj:j<xs.length),∃ u,cells[j * 2]? = some (.int .i64 xs[j].1)/\cells[j * 2+1]? = some u/\RepC M w (.list (.int .i64)) [u] xs[j].2.1:=by
 rcases h with ⟨_,hx⟩|⟨R,cap,cells,T,rfl,hg,l1,_,l3,l4,l5⟩
 . have:xs.length=0:=congrArg List.length hx;omega
 . refine ⟨R,cap,cells,T,rfl,hg,l1,l3,l4,fun j hj=>?_⟩;obtain ⟨u,e,hu⟩:=node_cells (l5 j hj);obtain ⟨c1,c2⟩:=two_at (j:=j * 2) e;exact ⟨u,c1,c2,hu⟩
theorem list_at {M:Mut} {w:World} {u:Value} {l:List Int} (h:RepC M w (.list (.int .i64)) [u] l) (hpos:0<l.length):∃ b o cap,u = .slice (some ⟨b,o,none⟩) l.length cap/\∀ j (hj:j<l.length),w.cell? ⟨b,o+j,none⟩=some (.int .i64 l[j])/\¬ M b (o+j):=by
 obtain ⟨ad,cap,e,hle,hel⟩:=h;obtain ⟨b,o,ec,had,_⟩:=hel 0 hpos;subst had;have e:u = .slice (some ⟨b,o,none⟩) l.length cap:=(List.cons.inj e).1;refine ⟨b,o,cap,e,fun j hj=>?_⟩;obtain ⟨b',o',ec',had',hec',hc',hr'⟩:=hel j hj
 simp only [Option.some.injEq,Addr.mk.injEq,and_true] at had';obtain ⟨rfl,rfl⟩:=had';have hr':ec'=[.int .i64 l[j]]:=hr';subst hr';have:=hc' 0 (by simp)
 simpa [Ty.size] using this
set_option maxRecDepth 8000 in
theorem E44_ok:EOKZ Tryz.prog H0 tail44 (fun {ρ} k s st=>E44 k s st):=by
 intro ρ fin hf hr F M0 w0 n hz hI hpl k Q hQ s st act w hc h;have h:E44 k s st=fin:=h;unfold E44 at h;split at h;rotate_left
 . exact absurd h.symm hf
 rename_i pD xsD hot e4;obtain ⟨p,hpD⟩:∃ p:Int,p=pD:=⟨_,rfl⟩
 subst hpD;obtain ⟨xs,hxsD⟩:∃ xs:List NODE,xs=xsD:=⟨_,rfl⟩
 subst hxsD;split at h;rotate_left
 . exact absurd h.symm hf
 rename_i q8 ys8 hot8 e8;split at h;rotate_left
 . exact absurd h.symm hf
 rename_i ixD e1;obtain ⟨ix,hixD⟩:∃ ix:Int,ix=ixD:=⟨_,rfl⟩
 subst hixD;split at h;rotate_left
 . exact absurd h.symm hf
 rename_i plD e2;obtain ⟨pl,hplD⟩:∃ pl:Int,pl=plD:=⟨_,rfl⟩
 subst hplD;split at h;rotate_left
 . exact absurd h.symm hf
 rename_i fgD e3;obtain ⟨fg,hfgD⟩:∃ fg:Int,fg=fgD:=⟨_,rfl⟩
 subst hfgD;cases hcd:(st.length==35 && ok44 xs ix pl) with
 | false=>rw [hcd] at h;exact absurd h.symm hf
 | true =>
 rw [hcd] at h;have h:k .ret s (st44 p (with44 xs ix pl fg))=fin:=h;rw [Bool.and_eq_true,beq_iff_eq] at hcd;obtain ⟨hlen,hok⟩:=hcd;unfold ok44 at hok;rw [Bool.and_eq_true,Bool.and_eq_true,decide_eq_true_eq] at hok;obtain ⟨hi,hpi,hl9⟩:=hok
 obtain ⟨hi0,hi1⟩:=inb_iff.1 hi;obtain ⟨hp0,hp1⟩:=inb_iff.1 hpi;obtain ⟨m,rfl⟩:∃ m:Nat,ix=m:=⟨ix.toNat,by omega⟩
 obtain ⟨z,rfl⟩:∃ z:Nat,pl=z:=⟨pl.toNat,by omega⟩
 have hm:m<xs.length:=by omega
 rw [Int.toNat_natCast] at hp1 hl9;have hgd:xs.getD m (0,([],()))=xs[m]:=by rw [List.getD_eq_getElem?_getD,List.getElem?_eq_getElem hm];rfl
 rw [hgd] at hp1 hl9;have hz1:z<xs[m].2.1.length:=by omega
 obtain ⟨hfr,M,hG⟩:=hc;have hg:=hG.2.1;have hsz:act.tmps.size=35:=hg.size.trans hlen;have s1:=hg.slot 1;rw [e1] at s1;have t1:tm act 1 = .int .i64 m:=slot_int s1;have s2:=hg.slot 2;rw [e2] at s2;have t2:tm act 2 = .int .i64 z:=slot_int s2
 have s3:=hg.slot 3;rw [e3] at s3;have t3:tm act 3 = .int .i64 fg:=slot_int s3;have s4:=hg.slot 4;rw [e4] at s4;obtain ⟨bX,TX,cX,t4,hbX,hcX,_,hokX⟩:=s4;obtain ⟨x0,x1,rfl⟩:=two_cells (hcX.trans rfl);have hx0:x0 = .int .i64 p:=cell_int (hokX 0 _ x0 rfl rfl)
 subst hx0;obtain ⟨R,cap,cells,TR,hx1,hgR,l1,l3,l4,l5⟩:=row_at (show ArrAt M w NDT x1 xs from hokX 1 _ x1 rfl rfl) (by omega);have s8:=hg.slot 8;rw [e8] at s8;obtain ⟨bY,TY,cY,t8,hbY,hcY,hmY,_⟩:=s8;obtain ⟨y0,y1,rfl⟩:=two_cells (hcY.trans rfl)
 have oX:owns st act w 4 none bX:=⟨by rw [e4];rfl,by rw [t4];rfl⟩
 have oY:owns st act w 8 none bY:=⟨by rw [e8];rfl,by rw [t8];rfl⟩
 have oR:owns st act w 4 (some 1) R:=⟨_,_,bX,_,e4,rfl,rfl,by rw [t4];rfl,cell_at hbX rfl,by rw [hx1];rfl⟩
 have hRX:R≠bX:=fun e=>by
  have:=(hg.one 4 (some 1) 4 none R oR (e ▸ oX)).2;cases this
 have hRY:R≠bY:=fun e=>by
  have:=(hg.one 4 (some 1) 8 none R oR (e ▸ oY)).1;omega
 have hXY:bX≠bY:=fun e=>by
  have:=(hg.one 4 none 8 none bX oX (e ▸ oY)).1;omega
 have lX:bX<w.heap.size:=(Array.getElem?_eq_some_iff.1 hbX).1;have lY:bY<w.heap.size:=(Array.getElem?_eq_some_iff.1 hbY).1;have lR:R<w.heap.size:=(Array.getElem?_eq_some_iff.1 hgR).1;obtain ⟨u,hu0,hu1,hru⟩:=l5 m hm;obtain ⟨b6,o6,cap6,hu6,hc6⟩:=list_at hru (by omega)
 obtain ⟨S,hS⟩:∃ S:World->Prop,S=fun w'=>w'.heap[bX]? = some (.cells #[.int .i64 p,x1] TX (0,0))/\w'.heap[R]? = some (.cells cells TR (0,0)):=⟨_,rfl⟩
 have S0:S w.drew:=by rw [hS];exact ⟨hbX,hgR⟩
 have ns:Region.noSelect r44_2=true:=by kernel_rfl
 refine wpIn_seq (held_begin mixed S 12 ?_);rw [show r44_2.size=13 by kernel_rfl];show wpAnyT Tryz.prog r44_2 (calmQ _) S 12 13 ((Array.replicate 13 false)) act w.drew;refine held_read (i:=0) (d:=13) (v:=.pointer (some ⟨bX,1,none⟩)) (by rw [info44_2];rfl) ns (by kernel_rfl) (by kernel_rfl) (by kernel_rfl) calm_no (fun o ho w' hw'=>ex_field24 ho t4) S0 ?_
 refine held_read (i:=1) (d:=14) (v:=x1) (by rw [info44_2];rfl) ns (by kernel_rfl) (by kernel_rfl) (by kernel_rfl) calm_no (fun o ho w' hw'=>?_) S0 ?_
 . rw [hS] at hw';exact ex_loadAt (T:=22) (t:=.list NDT) (by kernel_rfl) rfl rfl ho (b:=bX) (j:=1) (tm_put_same (by omega)) hw'.1 rfl
 refine held_read (i:=2) (d:=15) (v:=.int .i64 m) (by rw [info44_2];rfl) ns (by kernel_rfl) (by kernel_rfl) (by kernel_rfl) calm_no (fun o ho w' hw'=>by rw [ex_move ho,tm_put_other (by omega),tm_put_other (by omega),t1]) S0 ?_
 refine held_read (i:=3) (d:=16) (v:=.pointer (some ⟨bX,1,none⟩)) (by rw [info44_2];rfl) ns (by kernel_rfl) (by kernel_rfl) (by kernel_rfl) calm_no (fun o ho w' hw'=>ex_field24 ho (by rw [tm_put_other (by omega),tm_put_other (by omega),tm_put_other (by omega)];exact t4)) S0 ?_
 obtain ⟨a3,ha3⟩:∃ a3,a3=(((act.put (some 13) (.pointer (some ⟨bX,1,none⟩))).put (some 14) x1).put (some 15) (.int .i64 m)).put (some 16) (.pointer (some ⟨bX,1,none⟩)):=⟨_,rfl⟩
 rw [<- ha3];have z3:a3.tmps.size=35:=by rw [ha3];simp only [size_put];exact hsz
 have k3:∀ j,j<13->tm a3 j=tm act j:=fun j hj=>by rw [ha3,tm_put_other (by omega),tm_put_other (by omega),tm_put_other (by omega),tm_put_other (by omega)]
 have a14:tm a3 14=x1:=by rw [ha3,tm_put_other (by omega),tm_put_other (by omega),tm_put_same (by simp only [size_put];omega)]
 have a15:tm a3 15 = .int .i64 m:=by rw [ha3,tm_put_other (by omega),tm_put_same (by simp only [size_put];omega)]
 have a16:tm a3 16 = .pointer (some ⟨bX,1,none⟩):=by rw [ha3,tm_put_same (by simp only [size_put];omega)]
 refine held_read (i:=4) (d:=17) (v:=x1) (by rw [info44_2];rfl) ns (by kernel_rfl) (by kernel_rfl) (by kernel_rfl) calm_no (fun o ho w' hw'=>?_) S0 ?_
 . rw [hS] at hw';exact ex_loadAt (T:=22) (t:=.list NDT) (by kernel_rfl) rfl rfl ho (b:=bX) (j:=1) a16 hw'.1 rfl
 refine held_read (i:=5) (d:=18) (v:=.int .i64 m) (by rw [info44_2];rfl) ns (by kernel_rfl) (by kernel_rfl) (by kernel_rfl) calm_no (fun o ho w' hw'=>by rw [ex_move ho,tm_put_other (by omega),k3 1 (by omega),t1]) S0 ?_;refine held_read (i:=6) (d:=19) (v:=.pointer (some ⟨R,0+m * 2,none⟩)) (by rw [info44_2];rfl) ns (by kernel_rfl) (by kernel_rfl) (by kernel_rfl) calm_no (fun o ho w' hw'=>?_) S0 ?_
 . exact ex_index2 (T:=22) (E:=69) (e:=NDT) (by kernel_rfl) (by kernel_rfl) rfl ho (R:=R) (off:=0) (n:=xs.length) (cap:=cap) (i:=m) (by rw [tm_put_other (by omega),tm_put_same (by omega)];exact hx1) (tm_put_same (by simp only [size_put];omega)) hm
 refine held_read (i:=7) (d:=20) (v:=.pointer (some ⟨R,0+m * 2+1,none⟩)) (by rw [info44_2];rfl) ns (by kernel_rfl) (by kernel_rfl) (by kernel_rfl) calm_no (fun o ho w' hw'=>ex_field40 ho (tm_put_same (by simp only [size_put];omega))) S0 ?_
 have hcu:cells[0+m * 2+1]? = some u:=by rw [Nat.zero_add];exact hu1
 refine held_read (i:=8) (d:=21) (v:=u) (by rw [info44_2];rfl) ns (by kernel_rfl) (by kernel_rfl) (by kernel_rfl) calm_no (fun o ho w' hw'=>?_) S0 ?_
 . rw [hS] at hw';exact ex_loadAt (T:=25) (t:=.list (.int .i64)) (by kernel_rfl) rfl rfl ho (b:=R) (j:=0+m * 2+1) (tm_put_same (by simp only [size_put];omega)) hw'.2 hcu
 obtain ⟨a8,ha8⟩:∃ a8,a8=((((a3.put (some 17) x1).put (some 18) (.int .i64 m)).put (some 19) (.pointer (some ⟨R,0+m * 2,none⟩))).put (some 20) (.pointer (some ⟨R,0+m * 2+1,none⟩))).put (some 21) u:=⟨_,rfl⟩
 rw [<- ha8];have z8:a8.tmps.size=35:=by rw [ha8];simp only [size_put];exact z3
 have k8:∀ j,j<17->tm a8 j=tm a3 j:=fun j hj=>by rw [ha8,tm_put_other (by omega),tm_put_other (by omega),tm_put_other (by omega),tm_put_other (by omega),tm_put_other (by omega)]
 have a21:tm a8 21 = .slice (some ⟨b6,o6,none⟩) xs[m].2.1.length cap6:=by rw [ha8,tm_put_same (by simp only [size_put];omega)];exact hu6
 obtain ⟨o9,hi9,hd9,ho9,hg9⟩:=infoAt (ops:=r44_2) rfl (i:=9) (x:=(some 22,.call { callee:=.builtin .append,args := #[.const (.slice none 0 0),.tmp 21],argTypes := #[25,25] },none)) (by rw [info44_2];rfl);obtain ⟨cq,cur,w1,g1,g2,g3,g4,g5,g6⟩:=ex_app0 (w:=w.drew) (by omega) hl9 ho9 a21 fun j hj=>(hc6 j hj).1
 obtain ⟨q,hq⟩:∃ q,q=w.heap.size:=⟨_,rfl⟩
 have hqd:w.drew.heap.size=q:=hq.symm;rw [hqd] at g1 g2;have hb1:∀ j,j<w.heap.size->w1.heap[j]? = w.heap[j]? := fun j hj=>g6.block j hj fun e=>by cases e
 have hs1:w.heap.size<=w1.heap.size:=g6.size;have S1:S w1:=by rw [hS];exact ⟨(hb1 bX lX).trans hbX,(hb1 R lR).trans hgR⟩
 refine held_stepO (v:=.slice (some ⟨q,0,none⟩) xs[m].2.1.length cq) (w':=w1) hi9 hd9 hg9 (by kernel_rfl) g1 (.inl rfl) (fun _=>S1) ?_;show wpAnyT Tryz.prog r44_2 (calmQ _) S 12 3 _ (a8.put (some 22) (.slice (some ⟨q,0,none⟩) xs[m].2.1.length cq)) w1
 refine held_step (i:=10) (dst:=some 23) (v:=.pointer (some ⟨R,0+m * 2,none⟩)) (w':=w1) (by rw [info44_2];rfl) (by kernel_rfl) (fun o ho=>?_) (.inl rfl) (fun _=>S1) ?_
 . exact ex_index2 (T:=22) (E:=69) (e:=NDT) (by kernel_rfl) (by kernel_rfl) rfl ho (R:=R) (off:=0) (n:=xs.length) (cap:=cap) (i:=m) (by rw [tm_put_other (by omega),k8 14 (by omega),a14];exact hx1) (by rw [tm_put_other (by omega),k8 15 (by omega),a15]) hm
 refine held_read (i:=11) (d:=24) (v:=.pointer (some ⟨R,0+m * 2+1,none⟩)) (by rw [info44_2];rfl) ns (by kernel_rfl) (by kernel_rfl) (by kernel_rfl) calm_no (fun o ho w' hw'=>ex_field40 ho (tm_put_same (by simp only [size_put];omega))) S1 ?_
 obtain ⟨cR,hcR⟩:∃ cR,cR=cells.setIfInBounds (0+m * 2+1) (.slice (some ⟨q,0,none⟩) xs[m].2.1.length cq):=⟨_,rfl⟩
 have hmc:0+m * 2+1<cells.size:=by rw [l3];omega
 refine held_step (i:=12) (dst:=none) (v:=undef) (w':=w1.setRow R cR) (by rw [info44_2];rfl) (by kernel_rfl) (fun o ho=>?_) (.inr ⟨rfl,rfl⟩) (fun h=>absurd rfl h) ?_
 . rw [hcR];exact ex_storeAt (T:=25) (t:=.list (.int .i64)) (by kernel_rfl) rfl ho (b:=R) (j:=0+m * 2+1) (u:=.slice (some ⟨q,0,none⟩) xs[m].2.1.length cq) (tm_put_same (by simp only [size_put];omega)) (by rw [tm_put_other (by omega),tm_put_other (by omega),tm_put_same (by omega)]) rfl rfl ((hb1 R lR).trans hgR) hmc
 refine held_done (by kernel_rfl) ?_ _;rw [put_none];obtain ⟨a12,ha12⟩:∃ a12,a12=((a8.put (some 22) (.slice (some ⟨q,0,none⟩) xs[m].2.1.length cq)).put (some 23) (.pointer (some ⟨R,0+m * 2,none⟩))).put (some 24) (.pointer (some ⟨R,0+m * 2+1,none⟩)):=⟨_,rfl⟩
 rw [<- ha12];have z12:a12.tmps.size=35:=by rw [ha12];simp only [size_put];exact z8
 have k12:∀ j,j<13->tm a12 j=tm act j:=fun j hj=>by rw [ha12,tm_put_other (by omega),tm_put_other (by omega),tm_put_other (by omega),k8 j (by omega),k3 j hj]
 obtain ⟨w2,hw2⟩:∃ w2,w2=w1.setRow R cR:=⟨_,rfl⟩
 rw [<- hw2];have r2:w2.heap[R]? = some (.cells cR TR (0,0)):=by rw [hw2];exact setRow_same ((hb1 R lR).trans hgR)
 have n2:∀ j,j≠R->w2.heap[j]? = w1.heap[j]? := fun j hj=>by rw [hw2];exact setRow_other hj
 have sz2:w2.heap.size=w1.heap.size:=by rw [hw2];exact setRow_size
 have hqR:q≠R:=by omega
 have hqX:q≠bX:=by omega
 have hqY:q≠bY:=by omega
 have x2:w2.heap[bX]? = some (.cells #[.int .i64 p,x1] TX (0,0)):=(n2 bX (Ne.symm hRX)).trans ((hb1 bX lX).trans hbX);show (Code.seq (.region 3 r44_3 false) (.seq (.region 4 r44_4 false) .ret)).wpIn (fen none) n Tryz.prog Q a12 w2
 refine wpIn_seq (wpIn_region ?_);rw [show r44_3.size=10 by kernel_rfl];show wpOpsIn (fen none) n Tryz.prog r44_3 _ [0,1,2,3,4,5,6,7,8,9] a12 w2;rw [wpOpsIn_cons];refine opn_at info44_3 (i:=0) rfl (fun c h=>by cases h) (fun o ho=>ex_field24 ho (by rw [k12 4 (by omega)];exact t4)) ?_
 rw [wpOpsIn_cons];refine opn_at info44_3 (i:=1) (v:=x1) rfl (fun c h=>by cases h) (fun o ho=>ex_loadAt (T:=22) (t:=.list NDT) (by kernel_rfl) rfl rfl ho (b:=bX) (j:=0+1) (tm_put_same (by omega)) x2 rfl) ?_;rw [wpOpsIn_cons]
 refine opn_at info44_3 (i:=2) (v:=.int .i64 m) (w2:=w2) rfl (fun c h=>by cases h) (fun o ho=>by rw [ex_move ho,tm_put_other (by omega),tm_put_other (by omega),k12 1 (by omega),t1]) ?_;rw [wpOpsIn_cons];refine opn_at info44_3 (i:=3) rfl (fun c h=>by cases h) (fun o ho=>ex_index2 (T:=22) (E:=69) (e:=NDT) (by kernel_rfl) (by kernel_rfl) rfl ho (R:=R) (off:=0) (n:=xs.length) (cap:=cap) (i:=m) (by rw [tm_put_other (by omega),tm_put_same (by simp only [size_put];omega)];exact hx1) (tm_put_same (by simp only [size_put];omega)) hm) ?_
 rw [wpOpsIn_cons];refine opn_at info44_3 (i:=4) rfl (fun c h=>by cases h) (fun o ho=>ex_field40 ho (tm_put_same (by simp only [size_put];omega))) ?_;have hcq:cR[0+m * 2+1]? = some (.slice (some ⟨q,0,none⟩) xs[m].2.1.length cq):=by
  rw [hcR,Array.getElem?_setIfInBounds,if_pos rfl,if_pos hmc]
 rw [wpOpsIn_cons];refine opn_at info44_3 (i:=5) (v:=.slice (some ⟨q,0,none⟩) xs[m].2.1.length cq) rfl (fun c h=>by cases h) (fun o ho=>ex_loadAt (T:=25) (t:=.list (.int .i64)) (by kernel_rfl) rfl rfl ho (b:=R) (j:=0+m * 2+1) (tm_put_same (by simp only [size_put];omega)) r2 hcq) ?_
 rw [wpOpsIn_cons];refine opn_at info44_3 (i:=6) (v:=.int .i64 z) (w2:=w2) rfl (fun c h=>by cases h) (fun o ho=>by rw [ex_move ho,tm_put_other (by omega),tm_put_other (by omega),tm_put_other (by omega),tm_put_other (by omega),tm_put_other (by omega),tm_put_other (by omega),k12 2 (by omega),t2]) ?_
 rw [wpOpsIn_cons];refine opn_at info44_3 (i:=7) (v:=.int .i64 fg) (w2:=w2) rfl (fun c h=>by cases h) (fun o ho=>by rw [ex_move ho,tm_put_other (by omega),tm_put_other (by omega),tm_put_other (by omega),tm_put_other (by omega),tm_put_other (by omega),tm_put_other (by omega),tm_put_other (by omega),k12 3 (by omega),t3]) ?_
 rw [wpOpsIn_cons];refine opn_at info44_3 (i:=8) (v:=.pointer (some ⟨q,0+z,none⟩)) (w2:=w2) rfl (fun c h=>by cases h) (fun o ho=>?_) ?_
 . exact ex_index (w:=w2) (T:=25) (E:=3) (e:=.int .i64) (by kernel_rfl) (by kernel_rfl) rfl ho (R:=q) (off:=0) (n:=xs[m].2.1.length) (cap:=cq) (i:=(z:Int)) (by rw [tm_put_other (by omega),tm_put_other (by omega),tm_put_same (by simp only [size_put];omega)]) (by rw [tm_put_other (by omega),tm_put_same (by simp only [size_put];omega)]) (by omega) (by omega)
 have q2:w2.heap[q]? = some (.cells cur 3 (0,0)):=(n2 q hqR).trans g2;obtain ⟨cQ,hcQ⟩:∃ cQ,cQ=cur.setIfInBounds (0+z) (.int .i64 fg):=⟨_,rfl⟩
 rw [wpOpsIn_cons];refine opn_put info44_3 (i:=9) (w2:=w2.setRow q cQ) rfl (fun c h=>by cases h) (fun o ho=>?_) ?_
 . rw [hcQ];exact ex_storeAt (T:=3) (t:=.int .i64) (by kernel_rfl) rfl ho (b:=q) (j:=0+z) (u:=.int .i64 fg) (tm_put_same (by simp only [size_put];omega)) (by rw [tm_put_other (by omega),tm_put_same (by simp only [size_put];omega)]) rfl rfl q2 (by omega)
 obtain ⟨w3,hw3⟩:∃ w3,w3=w2.setRow q cQ:=⟨_,rfl⟩
 rw [<- hw3];have q3:w3.heap[q]? = some (.cells cQ 3 (0,0)):=by rw [hw3];exact setRow_same q2
 have n3:∀ j,j≠q->w3.heap[j]? = w2.heap[j]? := fun j hj=>by rw [hw3];exact setRow_other hj
 have sz3:w3.heap.size=w2.heap.size:=by rw [hw3];exact setRow_size
 obtain ⟨a9,ha9⟩:∃ a9,a9=((((((((a12.put (some 25) (.pointer (some ⟨bX,0+1,none⟩))).put (some 26) x1).put (some 27) (.int .i64 m)).put (some 28) (.pointer (some ⟨R,0+m * 2,none⟩))).put (some 29) (.pointer (some ⟨R,0+m * 2+1,none⟩))).put (some 30) (.slice (some ⟨q,0,none⟩) xs[m].2.1.length cq)).put (some 31) (.int .i64 z)).put (some 32) (.int .i64 fg)).put (some 33) (.pointer (some ⟨q,0+z,none⟩)):=⟨_,rfl⟩
 rw [<- ha9];have z9:a9.tmps.size=35:=by rw [ha9];simp only [size_put];exact z12
 have k9:∀ j,j<13->tm a9 j=tm act j:=fun j hj=>by rw [ha9,tm_put_other (by omega),tm_put_other (by omega),tm_put_other (by omega),tm_put_other (by omega),tm_put_other (by omega),tm_put_other (by omega),tm_put_other (by omega),tm_put_other (by omega),tm_put_other (by omega),k12 j hj]
 show (Code.seq (.region 4 r44_4 false) .ret).wpIn (fen none) n Tryz.prog Q a9 w3;refine wpIn_seq (wpIn_region ?_);rw [show r44_4.size=2 by kernel_rfl];show wpOpsIn (fen none) n Tryz.prog r44_4 _ [0,1] a9 w3;have x3:w3.heap[bX]? = some (.cells #[.int .i64 p,x1] TX (0,0)):=(n3 bX (Ne.symm hqX)).trans x2
 have y3:w3.heap[bY]? = some (.cells #[y0,y1] TY (0,0)):=(n3 bY (Ne.symm hqY)).trans ((n2 bY (Ne.symm hRY)).trans ((hb1 bY lY).trans hbY));rw [wpOpsIn_cons];refine opn_at info44_4 (i:=0) rfl (fun c h=>by cases h) (fun o ho=>ex_load24 ho (by rw [k9 4 (by omega)];exact t4) x3) ?_
 rw [wpOpsIn_cons];refine opn_put info44_4 (i:=1) rfl (fun c h=>by cases h) (fun o ho=>ex_storeT24 ho (by rw [tm_put_other (by omega),k9 8 (by omega)];exact t8) (tm_put_same (by omega)) y3 (fun v hv=>?_)) ?_
 . simp only [List.mem_cons,List.not_mem_nil,or_false] at hv;rcases hv with rfl|rfl
   . rfl
   . rw [hx1];rfl
 obtain ⟨w4,hw4⟩:∃ w4,w4=w3.setRow bY #[.int .i64 p,x1]:=⟨_,rfl⟩
 rw [<- hw4];have y4:w4.heap[bY]? = some (.cells #[.int .i64 p,x1] TY (0,0)):=by rw [hw4];exact setRow_same y3
 have n4:∀ j,j≠bY->w4.heap[j]? = w3.heap[j]? := fun j hj=>by rw [hw4];exact setRow_other hj
 have sz4:w4.heap.size=w3.heap.size:=by rw [hw4];exact setRow_size
 have q4:w4.heap[q]? = some (.cells cQ 3 (0,0)):=(n4 q hqY).trans q3;have r4:w4.heap[R]? = some (.cells cR TR (0,0)):=(n4 R hRY).trans ((n3 R (Ne.symm hqR)).trans r2);have hsame:∀ j,j<w.heap.size->j≠R->j≠bY->w4.heap[j]? = w.heap[j]? := fun j hj h1 h2=>by rw [n4 j h2,n3 j (by omega),n2 j h1,hb1 j hj]
 have hsz4:w.heap.size<=w4.heap.size:=by omega
 refine wpIn_ret (hQ .ret s _ _ w4 ?_ h);obtain ⟨a',ha'⟩:∃ a',a'=a9.put (some 34) (.agg #[.int .i64 p,x1]):=⟨_,rfl⟩
 rw [<- ha'];have za:a'.tmps.size=35:=by rw [ha',size_put];exact z9
 have t8':tm a' 8 = .pointer (some ⟨bY,0,none⟩):=by rw [ha',tm_put_other (by omega),k9 8 (by omega)];exact t8
 have hdf:a'.defers=act.defers:=by rw [ha',ha9,ha12,ha8,ha3];simp only [defers_put]
 obtain ⟨ns',hns'⟩:∃ ns':List NODE,ns'=with44 xs m z fg:=⟨_,rfl⟩
 rw [<- hns'];have hns2:ns'=xs.set m (xs[m].1,(xs[m].2.1.set z fg,())):=by rw [hns'];unfold with44;rw [Int.toNat_natCast,Int.toNat_natCast,hgd]
 have g8:get (st44 p ns') 8 = .box [.d (.int .i64) p,.d (.list NDT) ns']:=by unfold st44;rw [get_set _ _ _ _ (by simp),if_pos rfl]
 have gu:∀ i,i≠8->get (st44 p ns') i = .und:=fun i hi=>by unfold st44;rw [get_setne hi,get_repl]
 have hown:∀ i k b,owns (st44 p ns') a' w4 i k b->i=8/\k=none/\b=bY:=fun i k b ho=>by
  by_cases e:i=8
  . subst e;cases k with
    | none =>
     have:=ho.2;rw [t8'] at this;simp [ownB] at this;exact ⟨rfl,rfl,this.symm⟩
    | some k =>
     obtain ⟨cs',c0,c,v,f1,f2,f0,_⟩:=ho;rw [g8] at f1;cases f1
     match k,f2 with
     | 0,f2=>cases f2;cases f0
     | 1,f2=>cases f2;cases f0
     | k+2,f2=>cases f2
  . cases k with
    | none=>have:=ho.1;rw [gu i e] at this;cases this
    | some k=>obtain ⟨cs',_,_,_,f1,_⟩:=ho;rw [gu i e] at f1;cases f1
 have hRF:¬ F R:=hg.new 4 (some 1) R oR;have hYF:¬ F bY:=hg.new 8 none bY oY;have hst:Stable M w (fun b o=>M b o/\b≠R) w4:=fun b o v hc hm=>by
  have hb:=cell_in hc;have h1:b≠R:=fun e=>hm (e ▸ l4 o)
  have h2:b≠bY:=fun e=>hm (e ▸ hmY o)
  exact ⟨(World.cell?_of_block (a:=⟨b,o,none⟩) (hsame b hb h1 h2)).trans hc,fun hx=>hm hx.1⟩
 have hKD:KeepsD w w4:=fun D c e=>by
  rw [hsame D (Array.getElem?_eq_some_iff.1 e).1 (fun h1=>by rw [h1,hgR] at e;cases e) (fun h1=>by rw [h1,hbY] at e;cases e)];exact e
 have hrow:RepC (fun b o=>M b o/\b≠R) w4 (.list NDT) [x1] ns':=by
  have hnl:ns'.length=xs.length:=by rw [hns2,List.length_set]
  refine ⟨some ⟨R,0,none⟩,cap,by rw [hx1];show _=[Value.slice _ ns'.length cap];rw [hnl],by show ns'.length<=cap;rw [hnl];exact l1,fun j hj=>?_⟩;have hj:j<xs.length:=by have:j<ns'.length:=hj;omega
  obtain ⟨v,hv0,hv1,hrv⟩:=l5 j hj;have hcr:∀ i,i≠0+m * 2+1->cR[i]? = cells[i]? := fun i hi=>by rw [hcR,Array.getElem?_setIfInBounds,if_neg (Ne.symm hi)]
  have hcell:∀ i y,cR[i]? = some y->w4.cell? ⟨R,i,none⟩=some y:=fun i y hy=>cell_at r4 hy
  by_cases e:j=m
  . subst e;have hnj:ns'[j]'(by omega)=(xs[j].1,(xs[j].2.1.set z fg,())):=by simp [hns2]
    refine ⟨R,0,[.int .i64 xs[j].1,.slice (some ⟨q,0,none⟩) xs[j].2.1.length cq],rfl,rfl,fun i hi=>⟨?_,fun h=>h.2 rfl⟩,?_⟩
    . match i,hi with
      | 0,_=>exact hcell _ _ (by rw [hcr _ (by show 0+j * 2+0≠_;omega)];show cells[0+j * 2+0]? = _;rw [Nat.zero_add];exact hv0)
      | 1,_=>exact hcell _ _ hcq
    . show RepC _ w4 NDT _ (ns'[j]'(by omega));rw [hnj];refine node_rep (x:=(xs[j].1,(xs[j].2.1.set z fg,()))) ⟨some ⟨q,0,none⟩,cq,by show _=[Value.slice _ (xs[j].2.1.set z fg).length cq];rw [List.length_set],by show (xs[j].2.1.set z fg).length<=cq;rw [List.length_set];exact g3,fun i hi=>?_⟩
      have hi:i<xs[j].2.1.length:=by have:i<(xs[j].2.1.set z fg).length:=hi;rw [List.length_set] at this;exact this
      refine ⟨q,0,[.int .i64 ((xs[j].2.1.set z fg)[i]'(by rw [List.length_set];exact hi))],rfl,rfl,fun c hc=>⟨?_,fun h=>?_⟩,rfl⟩
      . have:c=0:=by simpa using hc
        subst this;refine cell_at q4 ?_;show cQ[0+i * 1+0]? = _;rw [Nat.zero_add,Nat.mul_one,Nat.add_zero,hcQ,Array.getElem?_setIfInBounds,Nat.zero_add];have hcur:cur[i]? = some (.int .i64 xs[j].2.1[i]):=by
         have h2:(cur.toList.take xs[j].2.1.length)[i]? = (intsV xs[j].2.1)[i]? := by rw [g5]
         rw [List.getElem?_take,if_pos hi,Array.getElem?_toList] at h2;rw [h2];simp [intsV,hi]
        by_cases e:z=i
        . subst e;rw [if_pos rfl,if_pos (by omega)];simp
        . rw [if_neg e,hcur];simp [List.getElem_set,e]
      . have:=hg.lt q _ h.1;omega
  . have hnj:ns'[j]'(by omega)=xs[j]:=by simp [hns2,List.getElem_set,Ne.symm e]
    refine ⟨R,0,[.int .i64 xs[j].1,v],rfl,rfl,fun i hi=>⟨?_,fun h=>h.2 rfl⟩,?_⟩
    . match i,hi with
      | 0,_=>exact hcell _ _ (by rw [hcr _ (by show 0+j * 2+0≠_;omega)];show cells[0+j * 2+0]? = _;rw [Nat.zero_add];exact hv0)
      | 1,_=>exact hcell _ _ (by rw [hcr _ (by show 0+j * 2+1≠_;omega)];show cells[0+j * 2+1]? = _;rw [Nat.zero_add];exact hv1)
    . show RepC _ w4 NDT _ (ns'[j]'(by omega));rw [hnj];exact node_rep (RepC.mono hst _ _ _ hrv)
 refine ⟨hfr.trans ⟨?_,?_,?_,hsz4,fun b hb=>hsame b (hg.room b hb) (fun e=>hRF (e ▸ hb)) (fun e=>hYF (e ▸ hb))⟩,fun b o=>M b o/\b≠R,trivial,?_,fun b h=>h.elim⟩
 . rw [hw4,hw3,hw2];exact g6.os
 . rw [hw4,hw3,hw2];exact g6.tape
 . rw [hw4,hw3,hw2];exact g6.output
 refine ⟨by rw [hdf];exact hg.defers.keep hKD,by rw [za];unfold st44;simp,fun b h=>Nat.lt_of_lt_of_le (hg.room b h) hsz4,hg.base,fun b o h=>⟨hg.up b o h,fun e=>hRF (e ▸ hg.base b o h)⟩,fun b o h=>Nat.lt_of_lt_of_le (hg.lt b o h.1) hsz4,fun b o hF h=>hg.down b o hF h.1,
  fun i=>?_,fun i k j l b h1 h2=>?_,fun i k b h=>?_,fun b o v h1 h2=>?_,fun j v hj=>(hpl j v hj).elim,hg.dm⟩
 . by_cases e:i=8
   . subst e;rw [g8,t8'];refine ⟨bY,TY,_,rfl,y4,rfl,fun o=>⟨hmY o,fun e=>hRY e.symm⟩,fun k c v h1 h2=>?_⟩
     match k,h1,h2 with
     | 0,h1,h2=>cases h1;cases h2;rfl
     | 1,h1,h2=>cases h1;cases h2;exact hrow
     | k+2,h1,_=>cases h1
   . rw [gu i e];trivial
 . obtain ⟨e1,e2,_⟩:=hown i k b h1;obtain ⟨e3,e4,_⟩:=hown j l b h2;exact ⟨e1.trans e3.symm,e2.trans e4.symm⟩
 . obtain ⟨_,_,rfl⟩:=hown i k b h;exact hYF
 . obtain ⟨c1,c2⟩:=hg.keep b o v h1 h2;have hFb:=hz b (cell_in h1);exact ⟨(World.cell?_of_block (a:=⟨b,o,none⟩) (hsame b (hg.room b hFb) (fun e=>hRF (e ▸ hFb)) (fun e=>hYF (e ▸ hFb)))).trans c1,fun h=>c2 h.1⟩
end Go.V
namespace Go.V
open Go.Proofs
def specs44:List Spec:=[(markOf 1000011)]
def hints44:List (Nat×List Nat):=[]
def specsQ44 (s:Unit):List Spec:=[(markOf 1000011)]
def T44:List (List Nat×HdH H0):=[([1,1],⟨fun {ρ} k s st=>E44 k s st⟩)]
theorem allQ44 (h:∀ s,∀ sp∈specsQ44 s,CallH Tryz.prog H0 s sp):AllZ Tryz.prog H0 (bodyOf Tryz.f33) (T44):=(allZ_cons (c':=tail44) (by kernel_rfl) E44_ok allZ_nil)
def F44 (N:Nat) (x:lt30):Out (Unit×(Int×lt22)):=bif (fits ([]:List (Int×lt0)) x.1.2.1) then bif (ok44 x.1.2.1 x.2.1 x.2.2.1) then .ret ((()),(x.1.1,(((with44 x.1.2.1 x.2.1 x.2.2.1 x.2.2.2.1)),()))) else .fail else .fail
theorem e44 (N:Nat) (x:lt30):vfnQ Tryz.prog H0 (phi specs44) hints44 N (T44) Tryz.f33 false false ty28 ty12 (()) x=F44 N x:=by kernel_rfl
def f44 (x:lt30):Out (Int×lt22):=dropG (F44 fuel x)
def sp44:Spec:=⟨33,.call,ty28,ty12,false,false,f44⟩
theorem c44:Contract Tryz.prog sp44:=contract_dropZ (H:=H0) () (fun w b h=>h) (fun M w=>trivial) (l:=specs44) (fun sp hs=>(by simp only [specs44,List.mem_cons,List.not_mem_nil,or_false] at hs;subst hs;exact mark_ok _)) Tryz.func33 rfl (allQ44 fun s sp hs=>.inl (by simp only [specsQ44,List.mem_cons,List.not_mem_nil,or_false] at hs;subst hs;exact mark_ok _)) hints44 fuel (e44 fuel)
end Go.V
namespace Go.V
open Go.Proofs
@[irreducible] def f18v:lt4->Out Bool:=veil f18
theorem f18v_eq:f18v=f18:=by unfold f18v;exact veil_eq f18
def sp18v:Spec:=⟨29,.call,ty6,.bool,false,false,f18v⟩
theorem c18v:Contract Tryz.prog sp18v:=by
 unfold sp18v
 rw [f18v_eq]
 exact c18
@[irreducible] def f22v:lt1->Out Bool:=veil f22
theorem f22v_eq:f22v=f22:=by unfold f22v;exact veil_eq f22
def sp22v:Spec:=⟨19,.call,ty2,.bool,false,false,f22v⟩
theorem c22v:Contract Tryz.prog sp22v:=by
 unfold sp22v
 rw [f22v_eq]
 exact c22
@[irreducible] def f39v:lt4->Out Bool:=veil f39
theorem f39v_eq:f39v=f39:=by unfold f39v;exact veil_eq f39
def sp39v:Spec:=⟨30,.call,ty6,.bool,false,false,f39v⟩
theorem c39v:Contract Tryz.prog sp39v:=by
 unfold sp39v
 rw [f39v_eq]
 exact c39
@[irreducible] def f44v:lt30->Out (Int×lt22):=veil f44
theorem f44v_eq:f44v=f44:=by unfold f44v;exact veil_eq f44
def sp44v:Spec:=⟨33,.call,ty28,ty12,false,false,f44v⟩
theorem c44v:Contract Tryz.prog sp44v:=by
 unfold sp44v
 rw [f44v_eq]
 exact c44
@[irreducible] def f46v:(Int×Unit)->Out Bool:=veil f46
theorem f46v_eq:f46v=f46:=by unfold f46v;exact veil_eq f46
def sp46v:Spec:=⟨31,.call,(.prod (.int .i64) .unit),.bool,false,false,f46v⟩
theorem c46v:Contract Tryz.prog sp46v:=by
 unfold sp46v
 rw [f46v_eq]
 exact c46
end Go.V
namespace Go.V
open Go.Proofs
theorem b00:((0:Int)==0)=true:=rfl
theorem nt:(!true)=false:=rfl
theorem nf:(!false)=true:=rfl
theorem copy_cases (t:TREE) (n:Int):(IsCopy t n/\decide (0<=n/\n<(t.2.1.length:Int))=true)\/(¬ IsCopy t n/\decide (0<=n/\n<(t.2.1.length:Int))=false):=by
 by_cases h:0<=n/\n<(t.2.1.length:Int)
 . exact .inl ⟨⟨h.1,h.2⟩,dT h⟩
 . exact .inr ⟨fun h2=>h ⟨h2.l,h2.h⟩,dF h⟩
theorem place_cases (t:TREE) (n:Int):(IsPlace t n/\decide (0<=n/\n<t.1)=true)\/(¬ IsPlace t n/\decide (0<=n/\n<t.1)=false):=by
 by_cases h:0<=n/\n<t.1
 . exact .inl ⟨⟨h.1,h.2⟩,dT h⟩
 . exact .inr ⟨fun h2=>h ⟨h2.l,h2.h⟩,dF h⟩
theorem IsCopy.nat {t:TREE} {n:Int} (h:IsCopy t n):∃ i:Nat,n=i/\i<t.2.1.length:=⟨n.toNat,by have:=h.l;omega,by have:=h.l;have:=h.h;omega⟩
theorem IsPlace.nat {t:TREE} {n:Int} (h:IsPlace t n):∃ i:Nat,n=i/\(i:Int)<t.1:=⟨n.toNat,by have:=h.l;omega,by have:=h.l;have:=h.h;omega⟩
theorem TreeOK.small {t:TREE} (h:TreeOK t):t.2.1.length<1000000:=by have:=h.copies;omega
end Go.V
namespace Go.V
open Go.Proofs
theorem TreeOK.at {t:TREE} (h:TreeOK t) {p:Nat} (hp:(p:Int)<t.1):TreeP t (p:Int):=h.treeP (by omega) hp
theorem errs_low {t:TREE} {place:Int} (h:TreeP t place) {l:List Int} (hv:VC t place l):errsT t place<=costV t l:=by
 have hb:=stor_best0 h;rw [errs_at h.ground hb];exact hb.few l hv
end Go.V
namespace Go.V
open Go.Proofs
def withT (t:TREE) (i p:Nat) (f:Int):TREE:=(t.1,(with44 t.2.1 i p f,()))
theorem with_len (t:TREE) (i p:Nat) (f:Int):(withT t i p f).2.1.length=t.2.1.length:=by unfold withT with44;simp
theorem with_node {t:TREE} {i p:Nat} {f:Int} (hi:i<t.2.1.length) (j:Nat):nodeAt (withT t i p f) j=if j=i then ((nodeAt t i).1,((nodeAt t i).2.1.set p f,())) else nodeAt t j:=by
 unfold nodeAt withT with44;simp only [Int.toNat_natCast];rw [getD_setL]
 by_cases e:j=i
 . rw [if_pos ⟨e,hi⟩,if_pos e]
 . rw [if_neg fun h=>e h.1,if_neg e]
theorem with_par {t:TREE} {i p:Nat} {f:Int} (hi:i<t.2.1.length) (j:Nat):parentAt (withT t i p f) j=parentAt t j:=by
 show (nodeAt (withT t i p f) j).1=(nodeAt t j).1;rw [with_node hi]
 by_cases e:j=i
 . rw [if_pos e,e]
 . rw [if_neg e]
theorem with_parN {t:TREE} {i p:Nat} {f:Int} (hi:i<t.2.1.length) (j:Nat):parN (withT t i p f) j=parN t j:=by
 unfold parN;rw [with_par hi]
theorem with_seen {t:TREE} (ht:TreeOK t) {i p:Nat} {f:Int} (hi:i<t.2.1.length) (hp:(p:Int)<t.1) (j q:Nat):seenAt (withT t i p f) j q=if j=i/\q=p then f else seenAt t j q:=by
 rw [seenAt_node,seenAt_node,with_node hi]
 by_cases e:j=i
 . subst e;rw [if_pos rfl];have hl:=(ht.node j hi).len;show ((nodeAt t j).2.1.set p f).getD q 0=_;rw [getD_setL]
   by_cases g:q=p
   . rw [if_pos ⟨g,by omega⟩,if_pos ⟨rfl,g⟩]
   . rw [if_neg fun h=>g h.1,if_neg fun h=>g h.2]
 . rw [if_neg e,if_neg fun h=>e h.1]
theorem with_ok {t:TREE} (ht:TreeOK t) {i p:Nat} {f:Int} (hi:i<t.2.1.length) (hp:(p:Int)<t.1) (hf:f = -1\/(0<=f/\f<=9)):TreeOK (withT t i p f) where
 places:=ht.places
 copies:=by rw [with_len];exact ht.copies
 node:=fun j hj=>by
  rw [with_len] at hj;have hn:=ht.node j hj
  by_cases e:j=i
  . subst e;refine ⟨?_,?_,?_⟩
    . rw [with_node hi,if_pos rfl];exact hn.par
    . rw [with_node hi,if_pos rfl];show (((nodeAt t j).2.1.set p f).length:Int)=t.1;rw [List.length_set];exact hn.len
    . rw [with_node hi,if_pos rfl];show SeenOK ((nodeAt t j).2.1.set p f);intro q hq;rw [List.length_set] at hq;rw [getD_setL]
      by_cases g:q=p/\p<(nodeAt t j).2.1.length
      . rw [if_pos g];exact hf
      . rw [if_neg g];exact hn.fig q hq
  . refine ⟨?_,?_,?_⟩<;>rw [with_node hi,if_neg e]
    . exact hn.par
    . exact hn.len
    . exact hn.fig
theorem with_cost {t:TREE} {i p:Nat} {f:Int} (hi:i<t.2.1.length) (l:List Int):costV (withT t i p f) l=costV t l:=by
 unfold costV;rw [with_len];refine sumTo_congr fun j _=>?_
 rw [with_parN hi]
theorem fitsW {t:TREE} (ht:TreeOK t) {i p:Nat} {f:Int} (hi:i<t.2.1.length) (hp:(p:Int)<t.1) (j q:Nat) (x:Int):fitsV (withT t i p f) q j x=true<->if j=i/\q=p then f = -1\/f=x else fitsV t q j x=true:=by
 rw [fitsV_iff,with_seen ht hi hp]
 by_cases e:j=i/\q=p
 . rw [if_pos e,if_pos e]
 . rw [if_neg e,if_neg e,fitsV_iff]
theorem with_vc_less {t:TREE} (ht:TreeOK t) {i p:Nat} (hi:i<t.2.1.length) (hp:(p:Int)<t.1) {q:Nat} {l:List Int} (h:VC t q l):VC (withT t i p (-1)) q l:=by
 refine ⟨by rw [with_len];exact h.len,h.fig,fun j hj=>?_⟩;rw [with_len] at hj;rw [fitsW ht hi hp]
 by_cases g:j=i/\q=p
 . rw [if_pos g];exact .inl rfl
 . rw [if_neg g];exact h.fit j hj
theorem with_less {t:TREE} (ht:TreeOK t) {i p:Nat} (hi:i<t.2.1.length) (hp:(p:Int)<t.1):fewT (withT t i p (-1))<=fewT t:=by
 show (sumTo t.1.toNat fun q=>errsT (withT t i p (-1)) q)<=sumTo t.1.toNat fun q=>errsT t q
 refine sumTo_mono fun q hq=>?_
 have hqt:(q:Int)<t.1:=by omega
 have hb:=stor_best0 (ht.at hqt);rw [errs_at (ht.at hqt).ground hb,<- with_cost (i:=i) (p:=p) (f := -1) hi];exact errs_low ((with_ok ht hi hp (.inl rfl)).at hqt) (with_vc_less ht hi hp hb.vc)
theorem f44_at {t:TREE} (ht:TreeOK t) {i p:Nat} (hi:i<t.2.1.length) (hp:(p:Int)<t.1) (f:Int):f44 (t,((i:Int),((p:Int),(f,())))) = .ret (withT t i p f):=by
 have hc:=ht.copies;have hP:=ht.places;have hl:=(ht.node i hi).len;have hok:ok44 t.2.1 (i:Int) (p:Int)=true:=by
  unfold ok44;have e:(t.2.1.getD i (0,([],()))).2.1.length=(nodeAt t i).2.1.length:=rfl;rw [Int.toNat_natCast,e,Bool.and_eq_true,Bool.and_eq_true,decide_eq_true_eq];exact ⟨inbT (by omega) (by omega),inbT (by omega) (by omega),by omega⟩
 unfold f44 F44;have hfi:fits ([]:List (Int×lt0)) t.2.1=true:=fitsT (by simp;omega);simp only [hfi,hok,cond_true];rfl
end Go.V
namespace Go.V
open Go.Proofs
def specs7:List Spec:=[sp22v,sp14v,sp18v,sp39v,sp46v,sp24v,sp44v]
def hints7:List (Nat×List Nat):=[]
def F7 (N:Nat) (x:lt30):Out Bool:=match f22v (x.1,()) with | .ret r_1=>(match (!r_1) with|true=>(match f14v () with | .ret r=>.ret r | .pan p=>.pan p | .fail=>.fail)|false=>match f18v (x.1,(x.2.1,())) with | .ret r_5=>(match (!r_5) with|true=>(match f14v () with | .ret r=>.ret r | .pan p=>.pan p | .fail=>.fail)|false=>match f39v (x.1,(x.2.2.1,())) with | .ret r_9=>(match (!r_9) with|true=>(match f14v () with | .ret r=>.ret r | .pan p=>.pan p | .fail=>.fail)|false=>match f46v (x.2.2.2.1,()) with | .ret r_13=>(match (!r_13) with|true=>(match f14v () with | .ret r=>.ret r | .pan p=>.pan p | .fail=>.fail)|false=>match f24v (x.1,()) with | .ret r_17=>(match f44v (x.1,(x.2.1,(x.2.2.1,((-1),())))) with | .ret r_19=>(match f24v (r_19,()) with | .ret r_21=>(match f44v (x.1,(x.2.1,(x.2.2.1,((-1),())))) with | .ret r_23=>(match f44v (r_23,(x.2.1,(x.2.2.1,(x.2.2.2.1,())))) with | .ret r_25=>(match f24v (r_25,()) with | .ret r_27=>(match (r_17.2.1==0) with|true=>(match (r_21.2.1==0) with|true=>(match (r_27.2.1==0) with|true=>(match (decide (r_21.1<=r_17.1)) with|true=>(match (decide (r_21.1<=r_27.1)) with|true=>(match (decide (r_21.1 >= 0)) with|true=>(match f14v () with | .ret r=>.ret r | .pan p=>.pan p | .fail=>.fail)|false=>.ret false)|false=>.ret false)|false=>.ret false)|false=>.ret false)|false=>.ret false)|false=>.ret false) | .pan p=>.pan p | .fail=>.fail) | .pan p=>.pan p | .fail=>.fail) | .pan p=>.pan p | .fail=>.fail) | .pan p=>.pan p | .fail=>.fail) | .pan p=>.pan p | .fail=>.fail) | .pan p=>.pan p | .fail=>.fail) | .pan p=>.pan p | .fail=>.fail) | .pan p=>.pan p | .fail=>.fail) | .pan p=>.pan p | .fail=>.fail) | .pan p=>.pan p | .fail=>.fail
theorem e7 (N:Nat) (x:lt30):vfn Tryz.prog (phi specs7) hints7 N Tryz.f7 false false ty28 .bool x=F7 N x:=by kernel_rfl
def f7 (x:lt30):Out Bool:=F7 fuel x
def sp7:Spec:=⟨7,.call,ty28,.bool,false,false,f7⟩
theorem c7:Contract Tryz.prog sp7:=contract_at (l:=specs7) (arg:=ty28) (res:=.bool) (multi:=false) (own:=false) (F:=f7) mixed (all_cons c22v (all_cons c14v (all_cons c18v (all_cons c39v (all_cons c46v (all_cons c24v (all_cons c44v all_nil))))))) Tryz.func7 rfl hints7 fun x _=>⟨fuel,e7 fuel x⟩
end Go.V
namespace Go.V
open Go.Proofs
theorem with_with {t:TREE} {i p:Nat} {f g:Int} (hi:i<t.2.1.length):withT (withT t i p f) i p g=withT t i p g:=by
 unfold withT with44;simp only [Int.toNat_natCast];rw [getD_setL,if_pos ⟨rfl,hi⟩,List.set_set,List.set_set]
theorem law7 (t:TREE) (a b c:Int):f7 (t,(a,(b,(c,())))) = .ret true:=by
 show F7 fuel (t,(a,(b,(c,()))))=_;unfold F7;simp only [f22v_eq,f18v_eq,f39v_eq,f46v_eq,f24v_eq,f44v_eq];rcases f22_at t with h22|⟨h22,ht⟩
 . simp only [h22,nf,known_true]
 have hsm:=ht.small;simp only [h22,nt,f18_at (t:=t) _ hsm];rcases copy_cases t a with ⟨ha,ea⟩|⟨ha,ea⟩
 rotate_left
 . simp only [ea,nf,known_true]
 simp only [ea,nt,f39_at ht];rcases place_cases t b with ⟨hb,eb⟩|⟨hb,eb⟩
 rotate_left
 . simp only [eb,nf,known_true]
 simp only [eb,nt,i46]
 by_cases hc:0<=c/\c<=9
 rotate_left
 . simp only [dF hc,nf,known_true]
 obtain ⟨i,rfl,hi⟩:=ha.nat;obtain ⟨p,rfl,hp⟩:=hb.nat;have h1:=with_ok ht hi hp (f := -1) (.inl rfl);have hi1:i<(withT t i p (-1)).2.1.length:=by rw [with_len];exact hi
 have h2:=with_ok h1 hi1 hp (f:=c) (.inr hc);have hi2:i<(withT (withT t i p (-1)) i p c).2.1.length:=by rw [with_len];exact hi1
 have q1:=with_less ht hi hp;have q2:=with_less h2 hi2 hp;rw [with_with hi1,with_with hi] at q2;have q3:=(fewTo_bd h1 (withT t i p (-1)).1.toNat (by have:=h1.places;omega)).1;simp only [dT hc,nt,f24_at ht,f44_at ht hi hp,f24_at h1,f44_at h1 hi1 hp,f24_at h2,b00,dT q1,dT q2,dT (show fewT (withT t i p (-1)) >= 0 from q3),known_true]
end Go.V
end
