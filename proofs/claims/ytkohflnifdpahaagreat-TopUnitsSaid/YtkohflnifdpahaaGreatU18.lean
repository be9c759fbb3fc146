/- A part of the proof of TopUnitsSaid: no condition beyond what each theorem says. -/
import Derived.Test.YtkohflnifdpahaaGreatU17
import Derived.ArgAppend
set_option linter.all false
namespace Go.V
open Go.Proofs
open Go.RowKit (Below)
noncomputable def r106_0:Array Oper:=regAt 0 (bodyOf Tryz.f106)
theorem info106_0:r106_0.toList.map opInfo=[(some 5,.assign (.const (.bool false)),none)]:=by kernel_rfl
noncomputable def r106_1:Array Oper:=regAt 1 (bodyOf Tryz.f106)
theorem info106_1:r106_1.toList.map opInfo=[(some 8,.move (.tmp 0),none),
 (some 9,.call { callee:=.builtin .len,args := #[.tmp 8],argTypes := #[29] },none),
 (some 10,.fieldAddr 24 (.tmp 1) 6,none),
 (some 11,.load 22 (.tmp 10),none),
 (some 12,.call { callee:=.builtin .len,args := #[.tmp 11],argTypes := #[22] },none),
 (some 13,.binOp .eql 3 (.tmp 9) (.tmp 12) 3,none)]:=by kernel_rfl
noncomputable def r106_2:Array Oper:=regAt 2 (bodyOf Tryz.f106)
theorem info106_2:r106_2.toList.map opInfo=[(some 14,.load 89 (.tmp 2),none),
 (some 15,.load 24 (.tmp 1),none),
 (some 16,.move (.tmp 0),none),
 (some 17,.build 86 #[(0,.tmp 15),(1,.tmp 16)],none),
 (some 18,.call { callee:=.value (.tmp 14),args := #[.tmp 17],argTypes := #[86] },none),
 (some 5,.assign (.tmp 18),none)]:=by kernel_rfl
noncomputable def r106_3:Array Oper:=regAt 3 (bodyOf Tryz.f106)
theorem info106_3:r106_3.toList.map opInfo=[(some 19,.fieldAddr 24 (.tmp 1) 6,none),
 (some 20,.load 22 (.tmp 19),none),
 (some 21,.move (.tmp 0),none),
 (some 22,.call { callee:=.builtin .len,args := #[.tmp 21],argTypes := #[29] },none),
 (some 23,.indexAddr 22 (.tmp 20) (.tmp 22),none),
 (some 24,.fieldAddr 55 (.tmp 23) 2,none),
 (some 25,.load 45 (.tmp 24),none),
 (some 6,.alloc 45,none),
 (none,.store 45 (.tmp 6) (.tmp 25),none)]:=by kernel_rfl
noncomputable def r106_4:Array Oper:=regAt 4 (bodyOf Tryz.f106)
theorem info106_4:r106_4.toList.map opInfo=[(some 26,.fieldAddr 45 (.tmp 6) 0,none),
 (some 27,.load 3 (.tmp 26),none),
 (some 7,.assign (.tmp 27),none)]:=by kernel_rfl
noncomputable def r106_5:Array Oper:=regAt 5 (bodyOf Tryz.f106)
theorem info106_5:r106_5.toList.map opInfo=[(some 28,.move (.tmp 7),none),
 (some 29,.fieldAddr 45 (.tmp 6) 1,none),
 (some 30,.load 3 (.tmp 29),none),
 (some 31,.binOp .leq 3 (.tmp 28) (.tmp 30) 3,none)]:=by kernel_rfl
noncomputable def r106_6:Array Oper:=regAt 6 (bodyOf Tryz.f106)
theorem info106_6:r106_6.toList.map opInfo=[(some 32,.move (.tmp 7),none),
 (some 33,.binOp .add 3 (.tmp 32) (.const (.int .i64 1)) 3,none),
 (some 7,.assign (.tmp 33),none)]:=by kernel_rfl
noncomputable def r106_7:Array Oper:=regAt 7 (bodyOf Tryz.f106)
theorem info106_7:r106_7.toList.map opInfo=[(some 34,.load 131 (.tmp 3),none),
 (some 35,.move (.tmp 0),none),
 (some 36,.move (.tmp 0),none),
 (some 37,.call { callee:=.builtin .len,args := #[.tmp 36],argTypes := #[29] },none),
 (some 38,.move (.tmp 0),none),
 (some 39,.call { callee:=.builtin .len,args := #[.tmp 38],argTypes := #[29] },none),
 (some 40,.slice 29 (.tmp 35) none (some (.tmp 37)) (some (.tmp 39)),none),
 (some 41,.move (.tmp 7),none),
 (some 42,.buildSlice 29 1 #[(0,.tmp 41)],none),
 (some 43,.call { callee:=.builtin .append,args := #[.tmp 40,.tmp 42],argTypes := #[29,29] },none),
 (some 44,.call { callee:=.value (.tmp 34),args := #[.tmp 43],argTypes := #[29] },none),
 (some 45,.unOp .not 4 (.tmp 44),none)]:=by kernel_rfl
noncomputable def r106_8:Array Oper:=regAt 8 (bodyOf Tryz.f106)
theorem info106_8:r106_8.toList.map opInfo=[(some 5,.assign (.const (.bool false)),none)]:=by kernel_rfl
noncomputable def r106_9:Array Oper:=regAt 9 (bodyOf Tryz.f106)
theorem info106_9:r106_9.toList.map opInfo=[(some 5,.assign (.const (.bool true)),none)]:=by kernel_rfl
noncomputable def lb106:Code:=.seq (.seq (.region 5 r106_5 false) (.cond (.tmp 31) .skip (.exit 0))) (.seq (.block 1 (.seq (.region 7 r106_7 true) (.cond (.tmp 45) (.seq (.region 8 r106_8 false) .ret) .skip))) (.region 6 r106_6 false))
theorem body106:bodyOf Tryz.f106 = .seq (.region 0 r106_0 false) (.seq (.seq (.region 1 r106_1 false) (.cond (.tmp 13) (.seq (.region 2 r106_2 false) .ret) .skip)) (.seq (.region 3 r106_3 false) (.seq (.seq (.region 4 r106_4 false) (.block 0 (.loop lb106))) (.seq (.region 9 r106_9 false) .ret)))):=by kernel_rfl
theorem some106:Tryz.f106.body=some (bodyOf Tryz.f106):=by kernel_rfl
theorem results106 {a:Act} {w:World}:(results Tryz.f106 a.tmps).run Tryz.prog w = .ok (tm a 5) w:=by
 have e:tm a 5=a.tmps[5]?.getD undef:=by unfold tm;simp
 rw [e]
 simp [results,Tryz.results106,go_sem]
section
variable {a : Act} {w : World} {o : Oper}
theorem ex_field24 {p:Nat} (ho:o.op = .fieldAddr 24 (.tmp p) 6) {b j:Nat} (h:tm a p = .pointer (some ⟨b,j,none⟩)):(execOp a.eval o).run Tryz.prog w = .ok (.value (.pointer (some ⟨b,j+6,none⟩))) w:=by
 have e:a.eval (.tmp p) = .pointer (some ⟨b,j,none⟩):=h
 simp only [execOp,ho,e]
 simp [go_sem,add_lit]
theorem ex_field55 {p:Nat} (ho:o.op = .fieldAddr 55 (.tmp p) 2) {b j:Nat} (h:tm a p = .pointer (some ⟨b,j,none⟩)):(execOp a.eval o).run Tryz.prog w = .ok (.value (.pointer (some ⟨b,j+2,none⟩))) w:=by
 have e:a.eval (.tmp p) = .pointer (some ⟨b,j,none⟩):=h
 simp only [execOp,ho,e]
 simp [go_sem,add_lit]
theorem ex_eqV {p q:Nat} (ho:o.op = .binOp .eql 3 (.tmp p) (.tmp q) 3) {x y:Int} (h1:tm a p = .int .i64 x) (h2:tm a q = .int .i64 y):(execOp a.eval o).run Tryz.prog w = .ok (.value (.bool (x==y))) w:=by
 have e1:a.eval (.tmp p) = .int .i64 x:=h1
 have e2:a.eval (.tmp q) = .int .i64 y:=h2
 simp only [execOp,ho,e1,e2]
 simp [go_sem]
theorem ex_build86 {p q:Nat} (ho:o.op = .build 86 #[(0,.tmp p),(1,.tmp q)]) {x0 x1 x2 x3 x4 x5 x6:Value} {ad:Option Addr} {n c:Nat} (h1:tm a p = .agg #[x0,x1,x2,x3,x4,x5,x6]) (h2:tm a q = .slice ad n c):(execOp a.eval o).run Tryz.prog w = .ok (.value (.agg #[x0,x1,x2,x3,x4,x5,x6,.slice ad n c])) w:=by
 have e1:a.eval (.tmp p) = .agg #[x0,x1,x2,x3,x4,x5,x6]:=h1
 have e2:a.eval (.tmp q) = .slice ad n c:=h2
 simp only [execOp,ho,List.map_toArray,List.map_cons,List.map_nil,e1,e2]
 simp [go_sem]
theorem ex_yieldA {p q:Nat} {T:Array Nat} (ho:o.op = .call { callee:=.value (.tmp p),args := #[.tmp q],argTypes:=T }) {l:Nat} {u:Value} (h0:tm a p = .func (.yield l) #[] #[]) (h1:tm a q=u) {fn:FuncId} {tmps:Array Value} {assign body:Code} {w':World} (hy:(Instr.yield l #[u]).run Tryz.prog w = .ok (.round l fn tmps assign body) w') :
 (execOp a.eval o).run Tryz.prog w = .ok (.round l fn tmps assign body) w':=by
 have e0:a.eval (.tmp p) = .func (.yield l) #[] #[]:=h0
 have e1:a.eval (.tmp q)=u:=h1
 simp [execOp,ho,resolve,e0,e1,Deferred.ofValue,invoke,hy]
theorem ex_indexN {T E:TypeId} {e:Ty} (hu:Tryz.prog.underlying T=some (.slice E)) (hE:tyOf Tryz.prog 9 E=some e) {s:Nat} (hes:e.size=s) {p q:Nat} (ho:o.op = .indexAddr T (.tmp p) (.tmp q)) {R off n cap:Nat} {i:Nat} (h0:tm a p = .slice (some ⟨R,off,none⟩) n cap) (h1:tm a q = .int .i64 i) (hi:i<n) :
 (execOp a.eval o).run Tryz.prog w = .ok (.value (.pointer (some ⟨R,off+i * s,none⟩))) w:=by
 have e0:a.eval (.tmp p) = .slice (some ⟨R,off,none⟩) n cap:=h0
 have e1:a.eval (.tmp q) = .int .i64 i:=h1
 simp [execOp,ho,e0,e1,Instr.indexAt,asIntOf,run_underlying hu,run_sizeOf hE,add_lit,hi,hes]
theorem ex_sliceM {p q r:Nat} (ho:o.op = .slice 29 (.tmp p) none (some (.tmp q)) (some (.tmp r))) {ad:Option Addr} {n c:Nat} (h0:tm a p = .slice ad n c) (h1:tm a q = .int .i64 n) (h2:tm a r = .int .i64 n) (hc:n<=c) (hs:n≠0->∀ x,ad=some x->x.spot=none):(execOp a.eval o).run Tryz.prog w = .ok (.value (.slice ad n n)) w:=by
 have e0:a.eval (.tmp p) = .slice ad n c:=h0
 have e1:a.eval (.tmp q) = .int .i64 n:=h1
 have e2:a.eval (.tmp r) = .int .i64 n:=h2
 have e3:=run_sliceAt_slice (P:=Tryz.prog) (w:=w) 29 (.slice ad n c) none (some (.int .i64 n)) (some (.int .i64 n)) (by kernel_rfl)
 have e4:=run_slice_hm (P:=Tryz.prog) (w:=w) 29 ad n c (by kernel_rfl) .i64 .i64 n n (by omega) (by omega) (by omega)
 have e5:(sizeOf (Tryz.prog.elem 29)).run Tryz.prog w = .ok 1 w:=by kernel_rfl
 rw [e5] at e4
 have e6:sliced ad 0 (n:Int).toNat (n:Int).toNat 1 = .slice ad n n:=by
  unfold sliced
  simp only [Int.toNat_natCast,Nat.zero_mul,Nat.sub_zero]
  split
  . rfl
  . rename_i hne
    cases ad with
    | none=>rfl
    | some x =>
     obtain ⟨b,off,sp⟩:=x
     have:=hs hne _ rfl
     simp only at this
     subst this
     rfl
 simp only [Result.andThen_ok,e6] at e4
 simp [execOp,ho,e0,e1,e2,e3,e4]
theorem ex_buildI {q:Nat} (ho:o.op = .buildSlice 29 1 #[(0,.tmp q)]) {x:Int} (h1:tm a q = .int .i64 x):(execOp a.eval o).run Tryz.prog w = .ok (.value (.slice (some ⟨w.heap.size,0,none⟩) 1 1)) (w.alloc (.cells #[.int .i64 x] 3)):=by
 have e1:a.eval (.tmp q) = .int .i64 x:=h1
 simp only [execOp,ho,List.map_toArray,List.map_cons,List.map_nil,e1]
 simp [go_sem]
theorem ex_callF {p q g:Nat} {T:Array Nat} (hent:enters Tryz.prog g=true) (ho:o.op = .call { callee:=.value (.tmp p),args := #[.tmp q],argTypes:=T }) {u:Value} {pc:Array Value} (h0:tm a p = .func (.func g) #[] pc) (h1:tm a q=u):(execOp a.eval o).run Tryz.prog w = .ok (.enter g (#[] ++ #[u]++pc)) w:=by
 have e0:a.eval (.tmp p) = .func (.func g) #[] pc:=h0
 have e1:a.eval (.tmp q)=u:=h1
 have e3:=fun args=>enters_run (P:=Tryz.prog) (g:=g) hent args w
 simp [execOp,ho,resolve,e0,e1,Deferred.ofValue,invoke,e3]
theorem ex_grow {p q:Nat} (ho:o.op = .call { callee:=.builtin .append,args := #[.tmp p,.tmp q],argTypes := #[29,29] }) {M:Mut} {ad:Option Addr} {now:List Int} {z:Int} {b n:Nat} (hn:n=now.length) (hlen:n<1000000) (h0:tm a p = .slice ad n n) (h1:tm a q = .slice (some ⟨b,0,none⟩) 1 1)
 (hrep:∀ (j:Nat) x,now[j]? = some x->∃ b o,ad=some ⟨b,o,none⟩/\w.cell? ⟨b,o+j,none⟩=some (.int .i64 x)) (hc:w.cell? ⟨b,0,none⟩=some (.int .i64 z)) :
 ∃ v' w',(execOp a.eval o).run Tryz.prog w = .ok (.value v') w'/\w'.ownsRow w.heap.size 3 1 v' (now++[z]).length ((now++[z]).map (Value.int .i64))/\w.grownBy w' none:=by
 subst hn
 have e0:a.eval (.tmp p) = .slice ad now.length now.length:=h0
 have e1:a.eval (.tmp q) = .slice (some ⟨b,0,none⟩) 1 1:=h1
 have hnews:∀ (j:Nat) u,[Value.int .i64 z][j]? = some u->w.cell? ((⟨b,0,none⟩:Addr).add j)=some u:=fun j u hj=>by
  match j,hj with
  | 0,hj=>cases hj;exact hc
  | j+1,hj=>cases hj
 cases ad with
 | none =>
  have hnil:now=[]:=by
   cases now with
   | nil=>rfl
   | cons y ys=>obtain ⟨_,_,h,_⟩:=hrep 0 y rfl;cases h
  subst hnil
  obtain ⟨v',w',g1,g2,g3,_⟩:=run_append_own (P:=Tryz.prog) w w.heap.size 29 o.type 3 ((Tryz.prog.info? 3).getD default) (.int .i64 0) 1 8 (by kernel_rfl) (by kernel_rfl) (by kernel_rfl) (by kernel_rfl) (by kernel_rfl) rfl (by omega) (.slice none 0 0) 0 [] (World.ownsRow_nil _ _ _ _) ⟨b,0,none⟩ 1 1 [.int .i64 z] rfl hnews
   (fun u hu=>by simp at hu;subst hu;rfl) (by unfold maxLen;omega) (by omega) (Nat.le_refl _)
  refine ⟨v',w',?_,by simpa using g2,g3⟩
  have e0:a.eval (.tmp p) = .slice none 0 0:=e0
  simp [execOp,ho,resolve,e0,e1,invoke,builtin,g1]
 | some x =>
  have hcells:∀ (j:Nat) u,(now.map (Value.int .i64))[j]? = some u->w.cell? (x.add j)=some u:=fun j u hj=>by
   rw [List.getElem?_map] at hj
   cases hx:now[j]? with
   | none=>rw [hx] at hj;cases hj
   | some y =>
    rw [hx] at hj
    cases hj
    obtain ⟨b',o',e,h⟩:=hrep j y hx
    cases e
    rw [<- h]
    congr 1
    unfold Addr.add
    by_cases h0:j=0<;>simp [h0]
  obtain ⟨v',w',g1,g2,g3⟩:=run_append_arg_grows (P:=Tryz.prog) w 29 o.type 3 ((Tryz.prog.info? 3).getD default) (.int .i64 0) 1 8 (by kernel_rfl) (by kernel_rfl) (by kernel_rfl) (by kernel_rfl) (by kernel_rfl) rfl (by omega) x now.length now.length (now.map (Value.int .i64)) (by simp) hcells ⟨b,0,none⟩ 1 1 [.int .i64 z] rfl hnews (by omega) (by unfold maxLen;omega) (by omega)
  refine ⟨v',w',?_,by simpa using g2,g3⟩
  simp [execOp,ho,resolve,e0,e1,invoke,builtin,g1]
end
theorem own_base {w:World} {b b':Nat} {T:TypeId} {sz:Nat} {v:Value} {n:Nat} {xs:List Value} (h:b<=b') (ho:w.ownsRow b' T sz v n xs):w.ownsRow b T sz v n xs:=by
 obtain ⟨h1,h2⟩:=ho
 refine ⟨h1,?_⟩
 rcases h2 with h2|⟨g,cap,cur,e,h3,h4⟩
 . exact .inl h2
 . exact .inr ⟨g,cap,cur,e,Nat.le_trans h h3,h4⟩
theorem bk_open {M:Mut} {w:World} {b o:Nat} {bk:BKD} (h:RepV M w (.ptr BKT) (.pointer (some ⟨b,o,none⟩)) bk):∃ ad cap,w.cell? ⟨b,o+6,none⟩=some (.slice ad bk.2.2.2.2.2.2.1.length cap)/\RepC M w (.list LINT) [.slice ad bk.2.2.2.2.2.2.1.length cap] bk.2.2.2.2.2.2.1:=by
 obtain ⟨cs,e1,b',off,ec,e2,e3,e4,e5⟩:=h
 subst e2
 have e1:Value.pointer (some ⟨b,o,none⟩) = .pointer (some ⟨b',off,none⟩):=e1
 cases e1
 obtain ⟨c1,d1,rfl,h1,c2,d2,rfl,h2,c3,d3,rfl,h3,c4,d4,rfl,h4,c5,d5,rfl,h5,c6,d6,rfl,h6,c7,d7,rfl,h7,h8⟩:=e5
 have h1:c1=[.int .i64 bk.1]:=h1
 have h2:c2=[.int .i64 bk.2.1]:=h2
 have h3:c3=[.int .i64 bk.2.2.1]:=h3
 have h4:c4=[.int .i64 bk.2.2.2.1]:=h4
 have h5:c5=[.int .i64 bk.2.2.2.2.1]:=h5
 have h6:c6=[.int .i64 bk.2.2.2.2.2.1]:=h6
 obtain ⟨ad,cap,e,_⟩:=id h7
 subst h1 h2 h3 h4 h5 h6 e
 exact ⟨ad,cap,(e4 6 (by simp)).1,h7⟩
theorem line_at {M:Mut} {w:World} {ad:Option Addr} {n cap:Nat} {lines:List LIN} (h:RepC M w (.list LINT) [.slice ad n cap] lines) {j:Nat} {ln:LIN} (hj:lines[j]? = some ln):∃ b o,ad=some ⟨b,o,none⟩/\RepV M w (.ptr SPANT) (.pointer (some ⟨b,o+j * 10+2,none⟩)) ln.2.2.1:=by
 obtain ⟨ad',cap',e,hle,h3⟩:=h
 cases e
 obtain ⟨hlt,rfl⟩:=List.getElem?_eq_some_iff.1 hj
 obtain ⟨b,o,ec,g1,g2,g3,g4⟩:=h3 j hlt
 refine ⟨b,o,g1,?_⟩
 obtain ⟨c1,d1,rfl,h1,c2,d2,rfl,h2,c3,d3,rfl,h3,h4⟩:=g4
 obtain ⟨p,h1⟩:∃ p:Int,c1=[.int .i64 p]:=⟨_,h1⟩
 obtain ⟨q,h2⟩:∃ q:Int,c2=[.int .i64 q]:=⟨_,h2⟩
 have hl:c3.length=2:=RepC.length _ _ _ h3
 subst h1 h2
 refine ⟨[.pointer (some ⟨b,o+j * 10+2,none⟩)],rfl,b,o+j * 10+2,c3,rfl,hl,fun i hi=>?_,h3⟩
 have h5:=g3 (i+2) (by simp;omega)
 have e6:([Value.int .i64 p]++([Value.int .i64 q]++(c3++d3)))[i+2]? = c3[i]? := by
  show (c3++d3)[i]? = _
  rw [List.getElem?_append_left (by omega)]
 have e7:o+j * 10+2+i=o+j * LINT.size+(i+2):=by show _=o+j * 10+(i+2);omega
 rw [e7]
 refine ⟨h5.1.trans ?_,h5.2⟩
 have h6:=(List.getElem?_eq_getElem (l:=[Value.int .i64 p]++([Value.int .i64 q]++(c3++d3))) (i:=i+2) (by simp;omega)).symm.trans (e6.trans (List.getElem?_eq_getElem hi))
 exact congrArg some (Option.some.inj h6)
structure KT where
 J:Nat->Mut->World->Prop
 Jx:World->Prop
 W:World
 l:Nat
 ya:Nat
 pa:Nat
 bt:Nat
 ot:Nat
 bk:BKD
 y:ACC
 R:Nat->Prop
namespace KT
def PT (K:KT):Value:=.pointer (some ⟨K.bt,K.ot,none⟩)
def PY (K:KT):Value:=.pointer (some ⟨K.ya,0,none⟩)
def PP (K:KT):Value:=.pointer (some ⟨K.pa,0,none⟩)
def PF (K:KT):Value:=.func (.func 106) #[] #[K.PT,K.PY,K.PP]
structure OK (K:KT):Prop where
 gey:K.W.heap.size<=K.ya
 gep:K.W.heap.size<=K.pa
 step:∀ i M1 W1 W2,K.J i M1 W1->IterStep K.W W1 W2->K.J i M1 W2
 stepx:∀ W1 W2,K.Jx W1->IterStep K.W W1 W2->K.Jx W2
 rlt:∀ b,K.R b->b<K.W.heap.size
 round:∀ M1 W1 u,K.J 0 M1 W1->RepV M1 W1 ACCT u K.y->∃ fn tmps assign body,(Instr.yield K.l #[u]).run Tryz.prog W1 = .ok (.round K.l fn tmps assign body) W1 /\
  RoundIn Fence.wide 0 Tryz.prog K.l fn tmps assign body W1 fun r W2=>(r = .returned (.bool true)/\∃ M2,K.J 1 M2 W2/\RoundKeeps K.R M1 W1 M2 W2)\/(r = .returned (.bool false)/\K.Jx W2)
structure At (K:KT) (i:Nat) (M1:Mut) (W1:World):Prop where
 j:K.J i M1 W1
 size:K.W.heap.size<=W1.heap.size
 hy:W1.heap[K.ya]? = some (.cells #[.func (.yield K.l) #[] #[]] 89 (0,0))
 hp:W1.heap[K.pa]? = some (.cells #[K.PF] 131 (0,0))
 mu:∀ k o,M1 k o->k<W1.heap.size/\k≠K.ya/\k≠K.pa
 bk:RepV M1 W1 (.ptr BKT) K.PT K.bk
def Post (K:KT) (M1:Mut) (W1:World) (r:Ending) (W2:World):Prop:=(r = .returned (.bool true)/\∃ M2,K.At 1 M2 W2/\Stable M1 W1 M2 W2)\/(r = .returned (.bool false)/\K.Jx W2)
theorem At.go {K:KT} (hK:K.OK) {i:Nat} {M1:Mut} {W1 W2:World} (h:K.At i M1 W1) (hb:Below W1.heap.size W1 W2):K.At i M1 W2:=by
 have lt:∀ {k:Nat} {ob:Obj},W1.heap[k]? = some ob->k<W1.heap.size:=fun e=>(Array.getElem?_eq_some_iff.1 e).1
 exact ⟨hK.step _ _ _ _ h.j ⟨⟨hb.os,hb.tape,hb.output,hb.size,fun k hk=>hb.block k (Nat.lt_of_lt_of_le hk h.size)⟩,fun k ob e _=>(hb.block k (lt e)).trans e⟩,Nat.le_trans h.size hb.size,
  (hb.block _ (lt h.hy)).trans h.hy,(hb.block _ (lt h.hp)).trans h.hp,fun k o hm=>⟨Nat.lt_of_lt_of_le (h.mu k o hm).1 hb.size,(h.mu k o hm).2⟩,RepV.mono (stable_below hb) h.bk⟩
theorem At.round {K:KT} (hK:K.OK) {M1 M2:Mut} {W1 W2:World} (h:K.At 0 M1 W1) (hj:K.J 1 M2 W2) (hk:RoundKeeps K.R M1 W1 M2 W2):K.At 1 M2 W2:=by
 have lt:∀ {k:Nat} {ob:Obj},W1.heap[k]? = some ob->k<W1.heap.size:=fun e=>(Array.getElem?_eq_some_iff.1 e).1
 have same:∀ k,K.W.heap.size<=k->(∀ o,¬ M1 k o)->∀ {ob:Obj},W1.heap[k]? = some ob->W2.heap[k]? = some ob:=fun k hge hno {ob} e =>
  (hk.same k (lt e) hno fun hR=>by have:=hK.rlt k hR;omega).trans e
 refine ⟨hj,Nat.le_trans h.size hk.size,same _ hK.gey (fun o hm=>(h.mu _ o hm).2.1 rfl) h.hy,same _ hK.gep (fun o hm=>(h.mu _ o hm).2.2 rfl) h.hp,fun k o hm=>⟨hk.lt k o hm,?_⟩,RepV.mono hk.stable h.bk⟩
 rcases hk.new k o hm with ⟨o',h'⟩|h'
 . exact (h.mu k o' h').2
 . have h1:=lt h.hy
   have h2:=lt h.hp
   omega
end KT
section
variable (K : KT) (M1 : Mut) (W1 : World) (now : List Int) (ad : Option Addr) (n c : Nat) (z : Int)
def Item7 (u x:Value) (w:World):Nat->Prop
 | 0=>u=K.PF
 | 1=>u = .slice ad n c
 | 2=>u = .slice ad n c
 | 3=>u = .int .i64 n
 | 4=>u = .slice ad n c
 | 5=>u = .int .i64 n
 | 6=>u = .slice ad n n
 | 7=>u = .int .i64 z
 | 8=>∃ b,u = .slice (some ⟨b,0,none⟩) 1 1/\w.cell? ⟨b,0,none⟩=some (.int .i64 z)
 | 9=>w.ownsRow W1.heap.size 3 1 u (now++[z]).length ((now++[z]).map (Value.int .i64))
 | 10=>K.Post M1 W1 (.returned u) w
 | 11=>∃ bb,x = .bool bb/\u = .bool (!bb)
 | _=>True
def Live7 (L:Nat->Bool):Nat->Prop
 | 8=>L 9=false
 | 9=>L 10=false
 | _=>True
structure RI7 (a0:Act) (L:Nat->Bool) (a:Act) (w:World):Prop where
 cl:∀ x y,waits r106_7 x y=true->L y=true->L x=true
 size:a.tmps.size=46
 defers:a.defers=[]
 home:∀ j,j<34->tm a j=tm a0 j
 item:∀ j,L j=true->Live7 L j->Item7 K M1 W1 now ad n c z (tm a (34+j)) (tm a 44) w j
 wp:L 10=false->Below W1.heap.size W1 w
end
section
variable {K : KT} {M1 : Mut} {W1 : World} {now : List Int} {ad : Option Addr} {n c : Nat} {z : Int}
theorem Item7.mono {u x x':Value} {w w':World}:∀ (j:Nat),Item7 K M1 W1 now ad n c z u x w j->((j=8\/j=9\/j=10)->w'=w)->(j=11->x'=x)->Item7 K M1 W1 now ad n c z u x' w' j
 | 0,h,_,_=>h
 | 1,h,_,_=>h
 | 2,h,_,_=>h
 | 3,h,_,_=>h
 | 4,h,_,_=>h
 | 5,h,_,_=>h
 | 6,h,_,_=>h
 | 7,h,_,_=>h
 | 8,h,e,_=>by rw [e (.inl rfl)];exact h
 | 9,h,e,_=>by rw [e (.inr (.inl rfl))];exact h
 | 10,h,e,_=>by rw [e (.inr (.inr rfl))];exact h
 | 11,h,_,e=>by rw [e rfl];exact h
 | _+12,_,_,_=>trivial
theorem Live7.less {L:Nat->Bool} {i:Nat}:∀ (j:Nat),Live7 (fun k=>L k || k==i) j->Live7 L j
 | 8,h=>(Bool.or_eq_false_iff.1 h).1
 | 9,h=>(Bool.or_eq_false_iff.1 h).1
 | 0,_=>trivial
 | 1,_=>trivial
 | 2,_=>trivial
 | 3,_=>trivial
 | 4,_=>trivial
 | 5,_=>trivial
 | 6,_=>trivial
 | 7,_=>trivial
 | _+10,_=>trivial
theorem wt7:waits r106_7 8 9=true/\waits r106_7 9 10=true/\waits r106_7 10 11=true/\waits r106_7 6 9=true/\waits r106_7 0 10=true/\waits r106_7 7 8=true/\waits r106_7 1 6=true/\waits r106_7 3 6=true/\waits r106_7 5 6=true/\waits r106_7 2 3=true/\waits r106_7 4 5=true :=
 ⟨by kernel_rfl,by kernel_rfl,by kernel_rfl,by kernel_rfl,by kernel_rfl,by kernel_rfl,by kernel_rfl,by kernel_rfl,by kernel_rfl,by kernel_rfl,by kernel_rfl⟩
theorem RI7.step {a0:Act} {L:Nat->Bool} {a:Act} {w w':World} {i:Nat} {u:Value} (h:RI7 K M1 W1 now ad n c z a0 L a w) (hi:i<12) (hni:L i=false) (hr:∀ j,waits r106_7 j i=true->L j=true) (hw:w'=w\/i=8\/i=9\/i=10)
 (hit:Item7 K M1 W1 now ad n c z u (tm a 44) w' i) (hwp:L 10=false->i≠10->Below W1.heap.size W1 w'):RI7 K M1 W1 now ad n c z a0 (fun k=>L k || k==i) (a.put (some (34+i)) u) w':=by
 obtain ⟨q1,q2,q3,_⟩:=wt7
 have hlt:34+i<a.tmps.size:=by rw [h.size];omega
 refine ⟨fun x y hxy hy=>?_,size_put.trans h.size,defers_put.trans h.defers,fun j hj=>by rw [tm_put_other (by omega)];exact h.home j hj,fun j hjL hl=>?_,fun hs=>?_⟩
 . show (L x || x==i)=true
   rcases Bool.or_eq_true_iff.1 hy with hy|hy
   . rw [h.cl x y hxy hy];rfl
   . have:y=i:=by simpa using hy
     subst this
     rw [hr x hxy];rfl
 . by_cases e:j=i
   . subst e
     rw [tm_put_same hlt]
     exact Item7.mono j hit (fun _=>rfl) fun hj=>by rw [tm_put_other (by omega)]
   . have hLj:L j=true:=by
      rcases Bool.or_eq_true_iff.1 hjL with h|h
      . exact h
      . exact absurd (by simpa using h) e
     rw [tm_put_other (by omega)]
     refine Item7.mono j (h.item j hLj (Live7.less j hl)) (fun hj=>?_) fun hj=>?_
     . rcases hw with hw|rfl|rfl|rfl
       . exact hw
       . rcases hj with rfl|rfl|rfl
         . exact absurd rfl e
         . have:=h.cl 8 9 q1 hLj;rw [hni] at this;cases this
         . have:=h.cl 8 9 q1 (h.cl 9 10 q2 hLj);rw [hni] at this;cases this
       . rcases hj with rfl|rfl|rfl
         . have h1:(L 9 || 9==9)=false:=hl
           simp at h1
         . exact absurd rfl e
         . have:=h.cl 9 10 q2 hLj;rw [hni] at this;cases this
       . have h9:=hr 9 q2
         rcases hj with rfl|rfl|rfl
         . have h1:(L 9 || 9==10)=false:=hl
           rw [h9] at h1;cases h1
         . have h1:(L 10 || 10==10)=false:=hl
           simp at h1
         . exact absurd rfl e
     . by_cases e12:i=10
       . subst e12;subst hj
         have:=h.cl 10 11 q3 hLj;rw [hni] at this;cases this
       . rw [tm_put_other (by omega)]
 . rcases Bool.or_eq_false_iff.1 hs with ⟨h1,h2⟩
   exact hwp h1 fun e=>by subst e;simp at h2
theorem not10 {L:Nat->Bool} {i:Nat} (h:∀ x y,waits r106_7 x y=true->L y=true->L x=true) (hi:i<10) (hni:L i=false):L 10=false:=by
 obtain ⟨q1,q2,q3,q4,q5,q6,q7,q8,q9,qa,qb⟩:=wt7
 cases h10:L 10 with
 | false=>rfl
 | true =>
  have h9:=h 9 10 q2 h10
  have h0:=h 0 10 q5 h10
  have h8:=h 8 9 q1 h9
  have h6:=h 6 9 q4 h9
  have h7:=h 7 8 q6 h8
  have h1:=h 1 6 q7 h6
  have h3:=h 3 6 q8 h6
  have h5:=h 5 6 q9 h6
  have h2:=h 2 3 qa h3
  have h4:=h 4 5 qb h5
  match i,hi with
  | 0,_=>rw [h0] at hni;cases hni
  | 1,_=>rw [h1] at hni;cases hni
  | 2,_=>rw [h2] at hni;cases hni
  | 3,_=>rw [h3] at hni;cases hni
  | 4,_=>rw [h4] at hni;cases hni
  | 5,_=>rw [h5] at hni;cases hni
  | 6,_=>rw [h6] at hni;cases hni
  | 7,_=>rw [h7] at hni;cases hni
  | 8,_=>rw [h8] at hni;cases hni
  | 9,_=>rw [h9] at hni;cases hni
  | _+10,h=>omega
theorem info_at7 {i:Nat} {o:Oper} {x:Option Tmp×Op×Option (Nat×Bool)} (h:r106_7[i]? = some o) (hx:(r106_7.toList.map opInfo)[i]? = some x):o.dst=x.1/\o.op=x.2.1/\o.guard=x.2.2:=by
 rw [List.getElem?_map,Array.getElem?_toList,h] at hx
 cases hx
 exact ⟨rfl,rfl,rfl⟩
theorem step7 (hK:K.OK) (hat:K.At 0 M1 W1) (hv:RepC M1 W1 (.list (.int .i64)) [.slice ad n c] now) (hn:n<1000000)
 (hrec:∀ W2 u,K.At 0 M1 W2->RepV M1 W2 (.list (.int .i64)) u (now++[z])->Calls Tryz.prog 106 #[u,K.PT,K.PY,K.PP] W2 (K.Post M1 W2))
 {a:Act} (t0:tm a 0 = .slice ad n c) (t3:tm a 3=K.PP) (t7:tm a 7 = .int .i64 z) {L:Nat->Bool} {a':Act} {w:World} (hI:RI7 K M1 W1 now ad n c z a L a' w) (i:Nat) (hi:i<12) {o:Oper} (ho:r106_7[i]? = some o) (hni:L i=false) (hr:∀ j,waits r106_7 j i=true->L j=true)
 {Q:Exit->Act->World->Prop}:wpOpIn (fen none) 0 Tryz.prog r106_7 Q i (fun a2 w2=>RI7 K M1 W1 now ad n c z a (fun k=>L k || k==i) a2 w2) a' w:=by
 obtain ⟨q1,q2,q3,q4,q5,q6,q7,q8,q9,qa,qb⟩:=wt7
 obtain ⟨ad',cap',e,hle,hcs⟩:=list_ints hv
 cases e
 have hx:=fun x hx=>info_at7 (x:=x) ho hx
 have hspot:now.length≠0->∀ x,ad=some x->x.spot=none:=fun h0 x e=>by
  obtain ⟨b,o,e2,_⟩:=hcs 0 (now[0]'(by omega)) (List.getElem?_eq_getElem (by omega))
  rw [e] at e2
  cases e2
  rfl
 match i,hi with
 | 0,_ =>
  obtain ⟨e1,e2,e3⟩:=hx (some 34,.load 131 (.tmp 3),none) (by rw [info106_7];rfl)
  refine opn_value ho (wanted_none e3) (fun c h=>by rw [e2] at h;cases h) (ex_load1 (T:=131) (t:=.raw) (by kernel_rfl) rfl rfl e2 ((hI.home 3 (by omega)).trans t3) (hat.go hK (hI.wp (not10 hI.cl (by omega) hni))).hp) ?_
  rw [e1]
  exact hI.step (by omega) hni hr (.inl rfl) rfl (fun h _=>hI.wp h)
 | 1,_ =>
  obtain ⟨e1,e2,e3⟩:=hx (some 35,.move (.tmp 0),none) (by rw [info106_7];rfl)
  refine opn_value ho (wanted_none e3) (fun c h=>by rw [e2] at h;cases h) (ex_move e2) ?_
  rw [e1]
  exact hI.step (by omega) hni hr (.inl rfl) ((hI.home 0 (by omega)).trans t0) (fun h _=>hI.wp h)
 | 2,_ =>
  obtain ⟨e1,e2,e3⟩:=hx (some 36,.move (.tmp 0),none) (by rw [info106_7];rfl)
  refine opn_value ho (wanted_none e3) (fun c h=>by rw [e2] at h;cases h) (ex_move e2) ?_
  rw [e1]
  exact hI.step (by omega) hni hr (.inl rfl) ((hI.home 0 (by omega)).trans t0) (fun h _=>hI.wp h)
 | 4,_ =>
  obtain ⟨e1,e2,e3⟩:=hx (some 38,.move (.tmp 0),none) (by rw [info106_7];rfl)
  refine opn_value ho (wanted_none e3) (fun c h=>by rw [e2] at h;cases h) (ex_move e2) ?_
  rw [e1]
  exact hI.step (by omega) hni hr (.inl rfl) ((hI.home 0 (by omega)).trans t0) (fun h _=>hI.wp h)
 | 3,_ =>
  obtain ⟨e1,e2,e3⟩:=hx (some 37,.call { callee:=.builtin .len,args := #[.tmp 36],argTypes := #[29] },none) (by rw [info106_7];rfl)
  refine opn_value ho (wanted_none e3) (fun c h=>by rw [e2] at h;cases h) (ex_len (T:=29) (E:=3) (by kernel_rfl) e2 (hI.item 2 (hr 2 qa) trivial)) ?_
  rw [e1]
  exact hI.step (by omega) hni hr (.inl rfl) rfl (fun h _=>hI.wp h)
 | 5,_ =>
  obtain ⟨e1,e2,e3⟩:=hx (some 39,.call { callee:=.builtin .len,args := #[.tmp 38],argTypes := #[29] },none) (by rw [info106_7];rfl)
  refine opn_value ho (wanted_none e3) (fun c h=>by rw [e2] at h;cases h) (ex_len (T:=29) (E:=3) (by kernel_rfl) e2 (hI.item 4 (hr 4 qb) trivial)) ?_
  rw [e1]
  exact hI.step (by omega) hni hr (.inl rfl) rfl (fun h _=>hI.wp h)
 | 6,_ =>
  obtain ⟨e1,e2,e3⟩:=hx (some 40,.slice 29 (.tmp 35) none (some (.tmp 37)) (some (.tmp 39)),none) (by rw [info106_7];rfl)
  refine opn_value ho (wanted_none e3) (fun c h=>by rw [e2] at h;cases h) (ex_sliceM e2 (hI.item 1 (hr 1 q7) trivial) (hI.item 3 (hr 3 q8) trivial) (hI.item 5 (hr 5 q9) trivial) hle hspot) ?_
  rw [e1]
  exact hI.step (by omega) hni hr (.inl rfl) rfl (fun h _=>hI.wp h)
 | 7,_ =>
  obtain ⟨e1,e2,e3⟩:=hx (some 41,.move (.tmp 7),none) (by rw [info106_7];rfl)
  refine opn_value ho (wanted_none e3) (fun c h=>by rw [e2] at h;cases h) (ex_move e2) ?_
  rw [e1]
  exact hI.step (by omega) hni hr (.inl rfl) ((hI.home 7 (by omega)).trans t7) (fun h _=>hI.wp h)
 | 8,_ =>
  obtain ⟨e1,e2,e3⟩:=hx (some 42,.buildSlice 29 1 #[(0,.tmp 41)],none) (by rw [info106_7];rfl)
  refine opn_value ho (wanted_none e3) (fun c h=>by rw [e2] at h;cases h) (ex_buildI e2 (hI.item 7 (hr 7 q6) trivial)) ?_
  rw [e1]
  exact hI.step (by omega) hni hr (.inr (.inl rfl)) ⟨w.heap.size,rfl,cell_at (heap_alloc_new w _) rfl⟩ fun h _=>(hI.wp h).alloc (hI.wp h).size _
 | 9,_ =>
  obtain ⟨e1,e2,e3⟩:=hx (some 43,.call { callee:=.builtin .append,args := #[.tmp 40,.tmp 42],argTypes := #[29,29] },none) (by rw [info106_7];rfl)
  have hb:=hI.wp (not10 hI.cl (by omega) hni)
  obtain ⟨b,g1,g2⟩:=hI.item 8 (hr 8 q1) hni
  obtain ⟨v',w',hrun,hown,hgr⟩:=ex_grow (M:=M1) (now:=now) e2 rfl hn (hI.item 6 (hr 6 q4) trivial) g1 (fun j x hj=>by
   obtain ⟨b,o,e,h⟩:=hcs j x hj
   exact ⟨b,o,e,(World.cell?_of_block (a:=⟨b,o+j,none⟩) (hb.block b (cell_lt h))).trans h⟩) g2
  refine opn_value ho (wanted_none e3) (fun c h=>by rw [e2] at h;cases h) hrun ?_
  rw [e1]
  exact hI.step (by omega) hni hr (.inr (.inr (.inl rfl))) (own_base hb.size hown) fun h _=>hb.trans ⟨hgr.os,hgr.tape,hgr.output,hgr.size,fun k hk=>hgr.block k (Nat.lt_of_lt_of_le hk hb.size) (by simp)⟩
 | 10,_ =>
  obtain ⟨e1,e2,e3⟩:=hx (some 44,.call { callee:=.value (.tmp 34),args := #[.tmp 43],argTypes := #[29] },none) (by rw [info106_7];rfl)
  have hb:=hI.wp hni
  have hat2:=hat.go hK hb
  refine opn_enter ho (wanted_none e3) (fun c h=>by rw [e2] at h;cases h) (ex_callF (g:=106) (pc := #[K.PT,K.PY,K.PP]) (by kernel_rfl) e2 (hI.item 0 (hr 0 q5) trivial) rfl) ?_
  refine (hrec w (tm a' 43) hat2 (rep_own (hI.item 9 (hr 9 q2) hni) fun k o h=>(hat.mu k o h).1)).mono ?_
  intro e w' he
  have hex:∃ u,e = .returned u/\K.Post M1 W1 (.returned u) w':=by
   rcases he with ⟨rfl,M2,h1,h2⟩|⟨rfl,h1⟩
   . exact ⟨_,rfl,.inl ⟨rfl,M2,h1,(stable_below hb).trans h2⟩⟩
   . exact ⟨_,rfl,.inr ⟨rfl,h1⟩⟩
  obtain ⟨u,rfl,hu⟩:=hex
  refine ⟨_,rfl,?_⟩
  rw [e1]
  exact hI.step (by omega) hni hr (.inr (.inr (.inr rfl))) hu fun _ h=>absurd rfl h
 | 11,_ =>
  obtain ⟨e1,e2,e3⟩:=hx (some 45,.unOp .not 4 (.tmp 44),none) (by rw [info106_7];rfl)
  have h10:=hr 10 q3
  have hb:∃ b,tm a' 44 = .bool b:=by
   rcases hI.item 10 h10 trivial with ⟨h,_⟩|⟨h,_⟩
   . exact ⟨_,Ending.returned.inj h⟩
   . exact ⟨_,Ending.returned.inj h⟩
  obtain ⟨b,hb⟩:=hb
  refine opn_value ho (wanted_none e3) (fun c h=>by rw [e2] at h;cases h) (ex_not e2 hb) ?_
  rw [e1]
  exact hI.step (by omega) hni hr (.inl rfl) ⟨b,hb,rfl⟩ fun h _=>hI.wp h
 | _+12,h=>exact absurd h (by omega)
theorem r7_wp (hK:K.OK) (hat:K.At 0 M1 W1) (hv:RepC M1 W1 (.list (.int .i64)) [.slice ad n c] now) (hn:n<1000000)
 (hrec:∀ W2 u,K.At 0 M1 W2->RepV M1 W2 (.list (.int .i64)) u (now++[z])->Calls Tryz.prog 106 #[u,K.PT,K.PY,K.PP] W2 (K.Post M1 W2))
 {a:Act} (hsz:a.tmps.size=46) (hd:a.defers=[]) (t0:tm a 0 = .slice ad n c) (t3:tm a 3=K.PP) (t7:tm a 7 = .int .i64 z) {Q:Exit->Act->World->Prop}
 (hQ:∀ a' W2,a'.tmps.size=46->a'.defers=[]->(∀ j,j<34->tm a' j=tm a j)->((tm a' 45 = .bool false/\∃ M2,K.At 1 M2 W2/\Stable M1 W1 M2 W2)\/(tm a' 45 = .bool true/\K.Jx W2))->Q .normal a' W2) :
 (Code.region 7 r106_7 true).wpIn (fen none) 0 Tryz.prog Q a W1:=by
 have hsize:r106_7.size=12:=by kernel_rfl
 refine region_inv (ro:=none) (I:=RI7 K M1 W1 now ad n c z a) mixed (by kernel_rfl) ?_ (fun L a' w i o hI ho hni hr=>step7 hK hat hv hn hrec t0 t3 t7 hI i ?_ ho hni hr) ?_
 . exact ⟨fun _ _ _ h=>(by cases h),hsz,hd,fun _ _=>rfl,fun _ h=>(by cases h),fun _=>⟨rfl,rfl,rfl,Nat.le_refl _,fun _ _=>rfl⟩⟩
 . have:=(Array.getElem?_eq_some_iff.1 ho).1
   rw [hsize] at this
   exact this
 . intro L a' w hI hall
   rw [hsize] at hall
   refine hQ a' w hI.size hI.defers hI.home ?_
   obtain ⟨bb,g1,g2⟩:=hI.item 11 (hall 11 (by omega)) trivial
   have g1:tm a' 44 = .bool bb:=g1
   have g2:tm a' 45 = .bool (!bb):=g2
   rcases hI.item 10 (hall 10 (by omega)) trivial with ⟨g,M2,h1,h2⟩|⟨g,h1⟩
   . have g:tm a' 44 = .bool true:=Ending.returned.inj g
     rw [g] at g1;cases g1
     exact .inl ⟨g2,M2,h1,h2⟩
   . have g:tm a' 44 = .bool false:=Ending.returned.inj g
     rw [g] at g1;cases g1
     exact .inr ⟨g2,h1⟩
end
end Go.V
namespace Go.V
open Go.Proofs
open Go.RowKit (Below)
section
variable {K : KT} {M1 : Mut} {W1 : World} {a : Act} {Q : Exit → Act → World → Prop} {ad : Option Addr} {n c : Nat}
theorem y0_wp  (hsz:a.tmps.size=46) (hd:a.defers=[])  (hQ:∀ a',a'.tmps.size=46->a'.defers=[]->(∀ j,j<5->tm a' j=tm a j)->tm a' 5 = .bool false->Q .normal a' W1):(Code.region 0 r106_0 false).wpIn (fen none) 0 Tryz.prog Q a W1:=by
 refine wpIn_region ?_
 rw [show r106_0.size=1 by kernel_rfl]
 show wpOpsIn (fen none) 0 Tryz.prog r106_0 _ [0] a W1
 obtain ⟨ox0,ix0,dx0,px0,qx0⟩:=infoAt info106_0 (i:=0) rfl
 simp only at dx0 px0 qx0
 rw [wpOpsIn_cons]
 refine opr_value ix0 (wanted_none qx0) (fun c h=>by rw [px0] at h;cases h) (ex_assignB px0) ?_
 rw [dx0]
 obtain ⟨ax1,hax1⟩:∃ zz:Act,zz=Act.put a (some 5) (.bool false):=⟨_,rfl⟩
 rw [<- hax1]
 have zx1:ax1.tmps.size=46:=by rw [hax1,size_put];exact hsz
 have tx1_5:tm ax1 5 = .bool false:=by rw [hax1];exact tm_put_same (by omega)
 exact hQ ax1 zx1 (by rw [hax1,defers_put];exact hd) (fun j hj=>by rw [hax1,tm_put_other (by omega)]) tx1_5
theorem y8_wp  (hsz:a.tmps.size=46) (hd:a.defers=[])  (hQ:∀ a',a'.tmps.size=46->a'.defers=[]->(∀ j,j<5->tm a' j=tm a j)->tm a' 5 = .bool false->Q .normal a' W1):(Code.region 8 r106_8 false).wpIn (fen none) 0 Tryz.prog Q a W1:=by
 refine wpIn_region ?_
 rw [show r106_8.size=1 by kernel_rfl]
 show wpOpsIn (fen none) 0 Tryz.prog r106_8 _ [0] a W1
 obtain ⟨ox0,ix0,dx0,px0,qx0⟩:=infoAt info106_8 (i:=0) rfl
 simp only at dx0 px0 qx0
 rw [wpOpsIn_cons]
 refine opr_value ix0 (wanted_none qx0) (fun c h=>by rw [px0] at h;cases h) (ex_assignB px0) ?_
 rw [dx0]
 obtain ⟨ax1,hax1⟩:∃ zz:Act,zz=Act.put a (some 5) (.bool false):=⟨_,rfl⟩
 rw [<- hax1]
 have zx1:ax1.tmps.size=46:=by rw [hax1,size_put];exact hsz
 have tx1_5:tm ax1 5 = .bool false:=by rw [hax1];exact tm_put_same (by omega)
 exact hQ ax1 zx1 (by rw [hax1,defers_put];exact hd) (fun j hj=>by rw [hax1,tm_put_other (by omega)]) tx1_5
theorem y9_wp  (hsz:a.tmps.size=46) (hd:a.defers=[])  (hQ:∀ a',a'.tmps.size=46->a'.defers=[]->(∀ j,j<5->tm a' j=tm a j)->tm a' 5 = .bool true->Q .normal a' W1):(Code.region 9 r106_9 false).wpIn (fen none) 0 Tryz.prog Q a W1:=by
 refine wpIn_region ?_
 rw [show r106_9.size=1 by kernel_rfl]
 show wpOpsIn (fen none) 0 Tryz.prog r106_9 _ [0] a W1
 obtain ⟨ox0,ix0,dx0,px0,qx0⟩:=infoAt info106_9 (i:=0) rfl
 simp only at dx0 px0 qx0
 rw [wpOpsIn_cons]
 refine opr_value ix0 (wanted_none qx0) (fun c h=>by rw [px0] at h;cases h) (ex_assignB px0) ?_
 rw [dx0]
 obtain ⟨ax1,hax1⟩:∃ zz:Act,zz=Act.put a (some 5) (.bool true):=⟨_,rfl⟩
 rw [<- hax1]
 have zx1:ax1.tmps.size=46:=by rw [hax1,size_put];exact hsz
 have tx1_5:tm ax1 5 = .bool true:=by rw [hax1];exact tm_put_same (by omega)
 exact hQ ax1 zx1 (by rw [hax1,defers_put];exact hd) (fun j hj=>by rw [hax1,tm_put_other (by omega)]) tx1_5
theorem y1_wp (hat:K.At 0 M1 W1) (hsz:a.tmps.size=46) (hd:a.defers=[]) (t0:tm a 0 = .slice ad n c) (t1:tm a 1 = .pointer (some ⟨K.bt,K.ot,none⟩)) (hQ:∀ a',a'.tmps.size=46->a'.defers=[]->(∀ j,j<8->tm a' j=tm a j)->tm a' 13 = .bool ((n:Int)==(K.bk.2.2.2.2.2.2.1.length:Int))->Q .normal a' W1):(Code.region 1 r106_1 false).wpIn (fen none) 0 Tryz.prog Q a W1:=by
 obtain ⟨lad,lcap,hc6,_⟩:=bk_open hat.bk
 refine wpIn_region ?_
 rw [show r106_1.size=6 by kernel_rfl]
 show wpOpsIn (fen none) 0 Tryz.prog r106_1 _ [0,1,2,3,4,5] a W1
 obtain ⟨ox0,ix0,dx0,px0,qx0⟩:=infoAt info106_1 (i:=0) rfl
 simp only at dx0 px0 qx0
 rw [wpOpsIn_cons]
 refine opr_value ix0 (wanted_none qx0) (fun c h=>by rw [px0] at h;cases h) (ex_move px0) ?_
 rw [dx0,t0]
 obtain ⟨ax1,hax1⟩:∃ zz:Act,zz=Act.put a (some 8) (.slice ad n c):=⟨_,rfl⟩
 rw [<- hax1]
 have zx1:ax1.tmps.size=46:=by rw [hax1,size_put];exact hsz
 have tx1_8:tm ax1 8 = .slice ad n c:=by rw [hax1];exact tm_put_same (by omega)
 obtain ⟨ox1,ix1,dx1,px1,qx1⟩:=infoAt info106_1 (i:=1) rfl
 simp only at dx1 px1 qx1
 rw [wpOpsIn_cons]
 refine opr_value ix1 (wanted_none qx1) (fun c h=>by rw [px1] at h;cases h) (ex_len (T:=29) (E:=3) (by kernel_rfl) px1 tx1_8) ?_
 rw [dx1]
 obtain ⟨ax2,hax2⟩:∃ zz:Act,zz=Act.put ax1 (some 9) (.int .i64 n):=⟨_,rfl⟩
 rw [<- hax2]
 have zx2:ax2.tmps.size=46:=by rw [hax2,size_put];exact zx1
 have tx1_1:tm ax1 1 = .pointer (some ⟨K.bt,K.ot,none⟩):=by rw [hax1,tm_put_other (by omega)];exact t1
 have tx2_1:tm ax2 1 = .pointer (some ⟨K.bt,K.ot,none⟩):=by rw [hax2,tm_put_other (by omega)];exact tx1_1
 obtain ⟨ox2,ix2,dx2,px2,qx2⟩:=infoAt info106_1 (i:=2) rfl
 simp only at dx2 px2 qx2
 rw [wpOpsIn_cons]
 refine opr_value ix2 (wanted_none qx2) (fun c h=>by rw [px2] at h;cases h) (ex_field24 px2 tx2_1) ?_
 rw [dx2]
 obtain ⟨ax3,hax3⟩:∃ zz:Act,zz=Act.put ax2 (some 10) (.pointer (some ⟨K.bt,K.ot+6,none⟩)):=⟨_,rfl⟩
 rw [<- hax3]
 have zx3:ax3.tmps.size=46:=by rw [hax3,size_put];exact zx2
 have tx3_10:tm ax3 10 = .pointer (some ⟨K.bt,K.ot+6,none⟩):=by rw [hax3];exact tm_put_same (by omega)
 obtain ⟨ox3,ix3,dx3,px3,qx3⟩:=infoAt info106_1 (i:=3) rfl
 simp only at dx3 px3 qx3
 rw [wpOpsIn_cons]
 refine opr_value ix3 (wanted_none qx3) (fun c h=>by rw [px3] at h;cases h) (ex_loadC (T:=22) (t:=.list LINT) (by kernel_rfl) px3 tx3_10 rfl rfl hc6) ?_
 rw [dx3]
 obtain ⟨ax4,hax4⟩:∃ zz:Act,zz=Act.put ax3 (some 11) (.slice lad K.bk.2.2.2.2.2.2.1.length lcap):=⟨_,rfl⟩
 rw [<- hax4]
 have zx4:ax4.tmps.size=46:=by rw [hax4,size_put];exact zx3
 have tx4_11:tm ax4 11 = .slice lad K.bk.2.2.2.2.2.2.1.length lcap:=by rw [hax4];exact tm_put_same (by omega)
 obtain ⟨ox4,ix4,dx4,px4,qx4⟩:=infoAt info106_1 (i:=4) rfl
 simp only at dx4 px4 qx4
 rw [wpOpsIn_cons]
 refine opr_value ix4 (wanted_none qx4) (fun c h=>by rw [px4] at h;cases h) (ex_len (T:=22) (E:=55) (by kernel_rfl) px4 tx4_11) ?_
 rw [dx4]
 obtain ⟨ax5,hax5⟩:∃ zz:Act,zz=Act.put ax4 (some 12) (.int .i64 K.bk.2.2.2.2.2.2.1.length):=⟨_,rfl⟩
 rw [<- hax5]
 have zx5:ax5.tmps.size=46:=by rw [hax5,size_put];exact zx4
 have tx2_9:tm ax2 9 = .int .i64 n:=by rw [hax2];exact tm_put_same (by omega)
 have tx3_9:tm ax3 9 = .int .i64 n:=by rw [hax3,tm_put_other (by omega)];exact tx2_9
 have tx4_9:tm ax4 9 = .int .i64 n:=by rw [hax4,tm_put_other (by omega)];exact tx3_9
 have tx5_9:tm ax5 9 = .int .i64 n:=by rw [hax5,tm_put_other (by omega)];exact tx4_9
 have tx5_12:tm ax5 12 = .int .i64 K.bk.2.2.2.2.2.2.1.length:=by rw [hax5];exact tm_put_same (by omega)
 obtain ⟨ox5,ix5,dx5,px5,qx5⟩:=infoAt info106_1 (i:=5) rfl
 simp only at dx5 px5 qx5
 rw [wpOpsIn_cons]
 refine opr_value ix5 (wanted_none qx5) (fun c h=>by rw [px5] at h;cases h) (ex_eqV px5 tx5_9 tx5_12) ?_
 rw [dx5]
 obtain ⟨ax6,hax6⟩:∃ zz:Act,zz=Act.put ax5 (some 13) (.bool ((n:Int)==(K.bk.2.2.2.2.2.2.1.length:Int))):=⟨_,rfl⟩
 rw [<- hax6]
 have zx6:ax6.tmps.size=46:=by rw [hax6,size_put];exact zx5
 have tx6_13:tm ax6 13 = .bool ((n:Int)==(K.bk.2.2.2.2.2.2.1.length:Int)):=by rw [hax6];exact tm_put_same (by omega)
 exact hQ ax6 zx6 (by rw [hax6,defers_put,hax5,defers_put,hax4,defers_put,hax3,defers_put,hax2,defers_put,hax1,defers_put];exact hd) (fun j hj=>by rw [hax6,tm_put_other (by omega),hax5,tm_put_other (by omega),hax4,tm_put_other (by omega),hax3,tm_put_other (by omega),hax2,tm_put_other (by omega),hax1,tm_put_other (by omega)]) tx6_13
theorem y3_wp (hat:K.At 0 M1 W1) {ln:LIN} (hj:K.bk.2.2.2.2.2.2.1[n]? = some ln) (hsz:a.tmps.size=46) (hd:a.defers=[]) (t0:tm a 0 = .slice ad n c) (t1:tm a 1 = .pointer (some ⟨K.bt,K.ot,none⟩)) (hQ:∀ a' w2,a'.tmps.size=46->a'.defers=[]->(∀ j,j<6->tm a' j=tm a j)->tm a' 6 = .pointer (some ⟨W1.heap.size,0,none⟩)->w2.cell? ⟨W1.heap.size,0,none⟩=some (.int .i64 ln.2.2.1.1)->w2.cell? ⟨W1.heap.size,1,none⟩=some (.int .i64 ln.2.2.1.2.1)->Below W1.heap.size W1 w2->Q .normal a' w2):(Code.region 3 r106_3 false).wpIn (fen none) 0 Tryz.prog Q a W1:=by
 obtain ⟨lad,lcap,hc6,hls⟩:=bk_open hat.bk
 obtain ⟨lb,lo_,rfl,hsp⟩:=line_at hls hj
 refine wpIn_region ?_
 rw [show r106_3.size=9 by kernel_rfl]
 show wpOpsIn (fen none) 0 Tryz.prog r106_3 _ [0,1,2,3,4,5,6,7,8] a W1
 obtain ⟨ox0,ix0,dx0,px0,qx0⟩:=infoAt info106_3 (i:=0) rfl
 simp only at dx0 px0 qx0
 rw [wpOpsIn_cons]
 refine opr_value ix0 (wanted_none qx0) (fun c h=>by rw [px0] at h;cases h) (ex_field24 px0 t1) ?_
 rw [dx0]
 obtain ⟨ax1,hax1⟩:∃ zz:Act,zz=Act.put a (some 19) (.pointer (some ⟨K.bt,K.ot+6,none⟩)):=⟨_,rfl⟩
 rw [<- hax1]
 have zx1:ax1.tmps.size=46:=by rw [hax1,size_put];exact hsz
 have tx1_19:tm ax1 19 = .pointer (some ⟨K.bt,K.ot+6,none⟩):=by rw [hax1];exact tm_put_same (by omega)
 obtain ⟨ox1,ix1,dx1,px1,qx1⟩:=infoAt info106_3 (i:=1) rfl
 simp only at dx1 px1 qx1
 rw [wpOpsIn_cons]
 refine opr_value ix1 (wanted_none qx1) (fun c h=>by rw [px1] at h;cases h) (ex_loadC (T:=22) (t:=.list LINT) (by kernel_rfl) px1 tx1_19 rfl rfl hc6) ?_
 rw [dx1]
 obtain ⟨ax2,hax2⟩:∃ zz:Act,zz=Act.put ax1 (some 20) (.slice (some ⟨lb,lo_,none⟩) K.bk.2.2.2.2.2.2.1.length lcap):=⟨_,rfl⟩
 rw [<- hax2]
 have zx2:ax2.tmps.size=46:=by rw [hax2,size_put];exact zx1
 have tx1_0:tm ax1 0 = .slice ad n c:=by rw [hax1,tm_put_other (by omega)];exact t0
 have tx2_0:tm ax2 0 = .slice ad n c:=by rw [hax2,tm_put_other (by omega)];exact tx1_0
 obtain ⟨ox2,ix2,dx2,px2,qx2⟩:=infoAt info106_3 (i:=2) rfl
 simp only at dx2 px2 qx2
 rw [wpOpsIn_cons]
 refine opr_value ix2 (wanted_none qx2) (fun c h=>by rw [px2] at h;cases h) (ex_move px2) ?_
 rw [dx2,tx2_0]
 obtain ⟨ax3,hax3⟩:∃ zz:Act,zz=Act.put ax2 (some 21) (.slice ad n c):=⟨_,rfl⟩
 rw [<- hax3]
 have zx3:ax3.tmps.size=46:=by rw [hax3,size_put];exact zx2
 have tx3_21:tm ax3 21 = .slice ad n c:=by rw [hax3];exact tm_put_same (by omega)
 obtain ⟨ox3,ix3,dx3,px3,qx3⟩:=infoAt info106_3 (i:=3) rfl
 simp only at dx3 px3 qx3
 rw [wpOpsIn_cons]
 refine opr_value ix3 (wanted_none qx3) (fun c h=>by rw [px3] at h;cases h) (ex_len (T:=29) (E:=3) (by kernel_rfl) px3 tx3_21) ?_
 rw [dx3]
 obtain ⟨ax4,hax4⟩:∃ zz:Act,zz=Act.put ax3 (some 22) (.int .i64 n):=⟨_,rfl⟩
 rw [<- hax4]
 have zx4:ax4.tmps.size=46:=by rw [hax4,size_put];exact zx3
 have tx2_20:tm ax2 20 = .slice (some ⟨lb,lo_,none⟩) K.bk.2.2.2.2.2.2.1.length lcap:=by rw [hax2];exact tm_put_same (by omega)
 have tx3_20:tm ax3 20 = .slice (some ⟨lb,lo_,none⟩) K.bk.2.2.2.2.2.2.1.length lcap:=by rw [hax3,tm_put_other (by omega)];exact tx2_20
 have tx4_20:tm ax4 20 = .slice (some ⟨lb,lo_,none⟩) K.bk.2.2.2.2.2.2.1.length lcap:=by rw [hax4,tm_put_other (by omega)];exact tx3_20
 have tx4_22:tm ax4 22 = .int .i64 n:=by rw [hax4];exact tm_put_same (by omega)
 obtain ⟨ox4,ix4,dx4,px4,qx4⟩:=infoAt info106_3 (i:=4) rfl
 simp only at dx4 px4 qx4
 rw [wpOpsIn_cons]
 refine opr_value ix4 (wanted_none qx4) (fun c h=>by rw [px4] at h;cases h) (ex_indexN (T:=22) (E:=55) (e:=LINT) (by kernel_rfl) (by kernel_rfl) (s:=10) rfl px4 tx4_20 tx4_22 (List.getElem?_eq_some_iff.1 hj).1) ?_
 rw [dx4]
 obtain ⟨ax5,hax5⟩:∃ zz:Act,zz=Act.put ax4 (some 23) (.pointer (some ⟨lb,lo_+n * 10,none⟩)):=⟨_,rfl⟩
 rw [<- hax5]
 have zx5:ax5.tmps.size=46:=by rw [hax5,size_put];exact zx4
 have tx5_23:tm ax5 23 = .pointer (some ⟨lb,lo_+n * 10,none⟩):=by rw [hax5];exact tm_put_same (by omega)
 obtain ⟨ox5,ix5,dx5,px5,qx5⟩:=infoAt info106_3 (i:=5) rfl
 simp only at dx5 px5 qx5
 rw [wpOpsIn_cons]
 refine opr_value ix5 (wanted_none qx5) (fun c h=>by rw [px5] at h;cases h) (ex_field55 px5 tx5_23) ?_
 rw [dx5]
 obtain ⟨ax6,hax6⟩:∃ zz:Act,zz=Act.put ax5 (some 24) (.pointer (some ⟨lb,lo_+n * 10+2,none⟩)):=⟨_,rfl⟩
 rw [<- hax6]
 have zx6:ax6.tmps.size=46:=by rw [hax6,size_put];exact zx5
 have tx6_24:tm ax6 24 = .pointer (some ⟨lb,lo_+n * 10+2,none⟩):=by rw [hax6];exact tm_put_same (by omega)
 obtain ⟨ox6,ix6,dx6,px6,qx6⟩:=infoAt info106_3 (i:=6) rfl
 simp only at dx6 px6 qx6
 rw [wpOpsIn_cons]
 obtain ⟨u25,hu25,hr25⟩:=ex_loadP (a:=ax6) (w:=W1) (t:=SPANT) (by kernel_rfl) px6 tx6_24 hsp
 have hu25:u25=pairV ln.2.2.1.1 ln.2.2.1.2.1:=slot_pair (st:=[]) (a:=⟨#[],[]⟩) (show SlotOK M1 W1 [] ⟨#[],[]⟩ u25 (.d SPANT ln.2.2.1) from hu25)
 subst hu25
 refine opr_value ix6 (wanted_none qx6) (fun c h=>by rw [px6] at h;cases h) hr25 ?_
 rw [dx6]
 obtain ⟨ax7,hax7⟩:∃ zz:Act,zz=Act.put ax6 (some 25) (pairV ln.2.2.1.1 ln.2.2.1.2.1):=⟨_,rfl⟩
 rw [<- hax7]
 have zx7:ax7.tmps.size=46:=by rw [hax7,size_put];exact zx6
 obtain ⟨ox7,ix7,dx7,px7,qx7⟩:=infoAt info106_3 (i:=7) rfl
 simp only at dx7 px7 qx7
 rw [wpOpsIn_cons]
 refine opr_value ix7 (wanted_none qx7) (fun c h=>by rw [px7] at h;cases h) (ex_alloc45 px7) ?_
 rw [dx7]
 obtain ⟨ax8,hax8⟩:∃ zz:Act,zz=Act.put ax7 (some 6) (.pointer (some ⟨W1.heap.size,0,none⟩)):=⟨_,rfl⟩
 rw [<- hax8]
 have zx8:ax8.tmps.size=46:=by rw [hax8,size_put];exact zx7
 obtain ⟨w1,hw1⟩:∃ b:World,b=W1.alloc (.cells #[.int .i64 0,.int .i64 0] 45):=⟨_,rfl⟩
 rw [<- hw1]
 have c1:w1.heap[W1.heap.size]? = some (.cells #[.int .i64 0,.int .i64 0] 45 (0,0)):=by rw [hw1];exact heap_alloc_new W1 _
 have tx8_6:tm ax8 6 = .pointer (some ⟨W1.heap.size,0,none⟩):=by rw [hax8];exact tm_put_same (by omega)
 have tx7_25:tm ax7 25=pairV ln.2.2.1.1 ln.2.2.1.2.1:=by rw [hax7];exact tm_put_same (by omega)
 have tx8_25:tm ax8 25=pairV ln.2.2.1.1 ln.2.2.1.2.1:=by rw [hax8,tm_put_other (by omega)];exact tx7_25
 obtain ⟨ox8,ix8,dx8,px8,qx8⟩:=infoAt info106_3 (i:=8) rfl
 simp only at dx8 px8 qx8
 rw [wpOpsIn_cons]
 refine opr_skipped ix8 (wanted_none qx8) (fun c h=>by rw [px8] at h;cases h) (ex_store45 (x:=ln.2.2.1.1) (y:=ln.2.2.1.2.1) px8 tx8_6 tx8_25 c1) ?_
 rw [dx8,put_none]
 obtain ⟨w2,hw2⟩:∃ b:World,b=w1.setRow W1.heap.size #[.int .i64 ln.2.2.1.1,.int .i64 ln.2.2.1.2.1]:=⟨_,rfl⟩
 rw [<- hw2]
 have c2:w2.heap[W1.heap.size]? = some (.cells #[.int .i64 ln.2.2.1.1,.int .i64 ln.2.2.1.2.1] 45 (0,0)):=by rw [hw2];exact setRow_same c1
 have hb:Below W1.heap.size W1 w2:=by
  refine ⟨by rw [hw2,hw1];rfl,by rw [hw2,hw1];rfl,by rw [hw2,hw1];rfl,by rw [hw2,setRow_size,hw1];simp,fun k hk=>?_⟩
  rw [hw2,setRow_other (by omega),hw1,heap_alloc_old W1 _ hk]
 exact hQ ax8 w2 zx8 (by rw [hax8,defers_put,hax7,defers_put,hax6,defers_put,hax5,defers_put,hax4,defers_put,hax3,defers_put,hax2,defers_put,hax1,defers_put];exact hd) (fun j hj=>by rw [hax8,tm_put_other (by omega),hax7,tm_put_other (by omega),hax6,tm_put_other (by omega),hax5,tm_put_other (by omega),hax4,tm_put_other (by omega),hax3,tm_put_other (by omega),hax2,tm_put_other (by omega),hax1,tm_put_other (by omega)]) tx8_6 (cell_at c2 rfl) (cell_at c2 rfl) hb
theorem y4_wp {bb:Nat} {lo:Int} (h0:W1.cell? ⟨bb,0,none⟩=some (.int .i64 lo)) (hsz:a.tmps.size=46) (hd:a.defers=[]) (t6:tm a 6 = .pointer (some ⟨bb,0,none⟩)) (hQ:∀ a',a'.tmps.size=46->a'.defers=[]->(∀ j,j<7->tm a' j=tm a j)->tm a' 7 = .int .i64 lo->Q .normal a' W1):(Code.region 4 r106_4 false).wpIn (fen none) 0 Tryz.prog Q a W1:=by
 refine wpIn_region ?_
 rw [show r106_4.size=3 by kernel_rfl]
 show wpOpsIn (fen none) 0 Tryz.prog r106_4 _ [0,1,2] a W1
 obtain ⟨ox0,ix0,dx0,px0,qx0⟩:=infoAt info106_4 (i:=0) rfl
 simp only at dx0 px0 qx0
 rw [wpOpsIn_cons]
 refine opr_value ix0 (wanted_none qx0) (fun c h=>by rw [px0] at h;cases h) (ex_field45 (.inl rfl) px0 t6) ?_
 rw [dx0]
 obtain ⟨ax1,hax1⟩:∃ zz:Act,zz=Act.put a (some 26) (.pointer (some ⟨bb,0+0,none⟩)):=⟨_,rfl⟩
 rw [<- hax1]
 have zx1:ax1.tmps.size=46:=by rw [hax1,size_put];exact hsz
 have tx1_26:tm ax1 26 = .pointer (some ⟨bb,0+0,none⟩):=by rw [hax1];exact tm_put_same (by omega)
 obtain ⟨ox1,ix1,dx1,px1,qx1⟩:=infoAt info106_4 (i:=1) rfl
 simp only at dx1 px1 qx1
 rw [wpOpsIn_cons]
 refine opr_value ix1 (wanted_none qx1) (fun c h=>by rw [px1] at h;cases h) (ex_loadC (T:=3) (t:=.int .i64) (by kernel_rfl) px1 tx1_26 rfl rfl h0) ?_
 rw [dx1]
 obtain ⟨ax2,hax2⟩:∃ zz:Act,zz=Act.put ax1 (some 27) (.int .i64 lo):=⟨_,rfl⟩
 rw [<- hax2]
 have zx2:ax2.tmps.size=46:=by rw [hax2,size_put];exact zx1
 have tx2_27:tm ax2 27 = .int .i64 lo:=by rw [hax2];exact tm_put_same (by omega)
 obtain ⟨ox2,ix2,dx2,px2,qx2⟩:=infoAt info106_4 (i:=2) rfl
 simp only at dx2 px2 qx2
 rw [wpOpsIn_cons]
 refine opr_value ix2 (wanted_none qx2) (fun c h=>by rw [px2] at h;cases h) (ex_assign px2) ?_
 rw [dx2,tx2_27]
 obtain ⟨ax3,hax3⟩:∃ zz:Act,zz=Act.put ax2 (some 7) (.int .i64 lo):=⟨_,rfl⟩
 rw [<- hax3]
 have zx3:ax3.tmps.size=46:=by rw [hax3,size_put];exact zx2
 have tx3_7:tm ax3 7 = .int .i64 lo:=by rw [hax3];exact tm_put_same (by omega)
 exact hQ ax3 zx3 (by rw [hax3,defers_put,hax2,defers_put,hax1,defers_put];exact hd) (fun j hj=>by rw [hax3,tm_put_other (by omega),hax2,tm_put_other (by omega),hax1,tm_put_other (by omega)]) tx3_7
theorem y5_wp {bb:Nat} {z hi:Int} (h1:W1.cell? ⟨bb,1,none⟩=some (.int .i64 hi)) (hsz:a.tmps.size=46) (hd:a.defers=[]) (t6:tm a 6 = .pointer (some ⟨bb,0,none⟩)) (t7:tm a 7 = .int .i64 z) (hQ:∀ a',a'.tmps.size=46->a'.defers=[]->(∀ j,j<28->tm a' j=tm a j)->tm a' 31 = .bool (decide (z<=hi))->Q .normal a' W1):(Code.region 5 r106_5 false).wpIn (fen none) 0 Tryz.prog Q a W1:=by
 refine wpIn_region ?_
 rw [show r106_5.size=4 by kernel_rfl]
 show wpOpsIn (fen none) 0 Tryz.prog r106_5 _ [0,1,2,3] a W1
 obtain ⟨ox0,ix0,dx0,px0,qx0⟩:=infoAt info106_5 (i:=0) rfl
 simp only at dx0 px0 qx0
 rw [wpOpsIn_cons]
 refine opr_value ix0 (wanted_none qx0) (fun c h=>by rw [px0] at h;cases h) (ex_move px0) ?_
 rw [dx0,t7]
 obtain ⟨ax1,hax1⟩:∃ zz:Act,zz=Act.put a (some 28) (.int .i64 z):=⟨_,rfl⟩
 rw [<- hax1]
 have zx1:ax1.tmps.size=46:=by rw [hax1,size_put];exact hsz
 have tx1_6:tm ax1 6 = .pointer (some ⟨bb,0,none⟩):=by rw [hax1,tm_put_other (by omega)];exact t6
 obtain ⟨ox1,ix1,dx1,px1,qx1⟩:=infoAt info106_5 (i:=1) rfl
 simp only at dx1 px1 qx1
 rw [wpOpsIn_cons]
 refine opr_value ix1 (wanted_none qx1) (fun c h=>by rw [px1] at h;cases h) (ex_field45 (.inr rfl) px1 tx1_6) ?_
 rw [dx1]
 obtain ⟨ax2,hax2⟩:∃ zz:Act,zz=Act.put ax1 (some 29) (.pointer (some ⟨bb,0+1,none⟩)):=⟨_,rfl⟩
 rw [<- hax2]
 have zx2:ax2.tmps.size=46:=by rw [hax2,size_put];exact zx1
 have tx2_29:tm ax2 29 = .pointer (some ⟨bb,0+1,none⟩):=by rw [hax2];exact tm_put_same (by omega)
 obtain ⟨ox2,ix2,dx2,px2,qx2⟩:=infoAt info106_5 (i:=2) rfl
 simp only at dx2 px2 qx2
 rw [wpOpsIn_cons]
 refine opr_value ix2 (wanted_none qx2) (fun c h=>by rw [px2] at h;cases h) (ex_loadC (T:=3) (t:=.int .i64) (by kernel_rfl) px2 tx2_29 rfl rfl h1) ?_
 rw [dx2]
 obtain ⟨ax3,hax3⟩:∃ zz:Act,zz=Act.put ax2 (some 30) (.int .i64 hi):=⟨_,rfl⟩
 rw [<- hax3]
 have zx3:ax3.tmps.size=46:=by rw [hax3,size_put];exact zx2
 have tx1_28:tm ax1 28 = .int .i64 z:=by rw [hax1];exact tm_put_same (by omega)
 have tx2_28:tm ax2 28 = .int .i64 z:=by rw [hax2,tm_put_other (by omega)];exact tx1_28
 have tx3_28:tm ax3 28 = .int .i64 z:=by rw [hax3,tm_put_other (by omega)];exact tx2_28
 have tx3_30:tm ax3 30 = .int .i64 hi:=by rw [hax3];exact tm_put_same (by omega)
 obtain ⟨ox3,ix3,dx3,px3,qx3⟩:=infoAt info106_5 (i:=3) rfl
 simp only at dx3 px3 qx3
 rw [wpOpsIn_cons]
 refine opr_value ix3 (wanted_none qx3) (fun c h=>by rw [px3] at h;cases h) (ex_leq px3 tx3_28 tx3_30) ?_
 rw [dx3]
 obtain ⟨ax4,hax4⟩:∃ zz:Act,zz=Act.put ax3 (some 31) (.bool (decide (z<=hi))):=⟨_,rfl⟩
 rw [<- hax4]
 have zx4:ax4.tmps.size=46:=by rw [hax4,size_put];exact zx3
 have tx4_31:tm ax4 31 = .bool (decide (z<=hi)):=by rw [hax4];exact tm_put_same (by omega)
 exact hQ ax4 zx4 (by rw [hax4,defers_put,hax3,defers_put,hax2,defers_put,hax1,defers_put];exact hd) (fun j hj=>by rw [hax4,tm_put_other (by omega),hax3,tm_put_other (by omega),hax2,tm_put_other (by omega),hax1,tm_put_other (by omega)]) tx4_31
theorem y6_wp {z:Int} (hsz:a.tmps.size=46) (hd:a.defers=[]) (t7:tm a 7 = .int .i64 z) (hQ:∀ a',a'.tmps.size=46->a'.defers=[]->(∀ j,j<7->tm a' j=tm a j)->tm a' 7 = .int .i64 (IntKind.i64.wrap (z+1))->Q .normal a' W1):(Code.region 6 r106_6 false).wpIn (fen none) 0 Tryz.prog Q a W1:=by
 refine wpIn_region ?_
 rw [show r106_6.size=3 by kernel_rfl]
 show wpOpsIn (fen none) 0 Tryz.prog r106_6 _ [0,1,2] a W1
 obtain ⟨ox0,ix0,dx0,px0,qx0⟩:=infoAt info106_6 (i:=0) rfl
 simp only at dx0 px0 qx0
 rw [wpOpsIn_cons]
 refine opr_value ix0 (wanted_none qx0) (fun c h=>by rw [px0] at h;cases h) (ex_move px0) ?_
 rw [dx0,t7]
 obtain ⟨ax1,hax1⟩:∃ zz:Act,zz=Act.put a (some 32) (.int .i64 z):=⟨_,rfl⟩
 rw [<- hax1]
 have zx1:ax1.tmps.size=46:=by rw [hax1,size_put];exact hsz
 have tx1_32:tm ax1 32 = .int .i64 z:=by rw [hax1];exact tm_put_same (by omega)
 obtain ⟨ox1,ix1,dx1,px1,qx1⟩:=infoAt info106_6 (i:=1) rfl
 simp only at dx1 px1 qx1
 rw [wpOpsIn_cons]
 refine opr_value ix1 (wanted_none qx1) (fun c h=>by rw [px1] at h;cases h) (ex_add1 px1 tx1_32) ?_
 rw [dx1]
 obtain ⟨ax2,hax2⟩:∃ zz:Act,zz=Act.put ax1 (some 33) (.int .i64 (IntKind.i64.wrap (z+1))):=⟨_,rfl⟩
 rw [<- hax2]
 have zx2:ax2.tmps.size=46:=by rw [hax2,size_put];exact zx1
 have tx2_33:tm ax2 33 = .int .i64 (IntKind.i64.wrap (z+1)):=by rw [hax2];exact tm_put_same (by omega)
 obtain ⟨ox2,ix2,dx2,px2,qx2⟩:=infoAt info106_6 (i:=2) rfl
 simp only at dx2 px2 qx2
 rw [wpOpsIn_cons]
 refine opr_value ix2 (wanted_none qx2) (fun c h=>by rw [px2] at h;cases h) (ex_assign px2) ?_
 rw [dx2,tx2_33]
 obtain ⟨ax3,hax3⟩:∃ zz:Act,zz=Act.put ax2 (some 7) (.int .i64 (IntKind.i64.wrap (z+1))):=⟨_,rfl⟩
 rw [<- hax3]
 have zx3:ax3.tmps.size=46:=by rw [hax3,size_put];exact zx2
 have tx3_7:tm ax3 7 = .int .i64 (IntKind.i64.wrap (z+1)):=by rw [hax3];exact tm_put_same (by omega)
 exact hQ ax3 zx3 (by rw [hax3,defers_put,hax2,defers_put,hax1,defers_put];exact hd) (fun j hj=>by rw [hax3,tm_put_other (by omega),hax2,tm_put_other (by omega),hax1,tm_put_other (by omega)]) tx3_7
theorem y2_wp (hK:K.OK) (hat:K.At 0 M1 W1) {now:List Int} (hv:RepC M1 W1 (.list (.int .i64)) [.slice ad n c] now) (hy:K.y=(K.bk,(now,()))) (hsz:a.tmps.size=46) (hd:a.defers=[]) (t0:tm a 0 = .slice ad n c) (t1:tm a 1 = .pointer (some ⟨K.bt,K.ot,none⟩)) (t2:tm a 2 = .pointer (some ⟨K.ya,0,none⟩))
 (hQ:∀ a' w' u,a'.defers=[]->tm a' 5=u->K.Post M1 W1 (.returned u) w'->Q .normal a' w'):(Code.region 2 r106_2 false).wpIn (fen none) 0 Tryz.prog Q a W1:=by
 refine wpIn_region ?_
 rw [show r106_2.size=6 by kernel_rfl]
 show wpOpsIn (fen none) 0 Tryz.prog r106_2 _ [0,1,2,3,4,5] a W1
 obtain ⟨ox0,ix0,dx0,px0,qx0⟩:=infoAt info106_2 (i:=0) rfl
 simp only at dx0 px0 qx0
 rw [wpOpsIn_cons]
 refine opr_value ix0 (wanted_none qx0) (fun c h=>by rw [px0] at h;cases h) (ex_load1 (T:=89) (t:=.raw) (by kernel_rfl) rfl rfl px0 t2 hat.hy) ?_
 rw [dx0]
 obtain ⟨ax1,hax1⟩:∃ zz:Act,zz=Act.put a (some 14) (.func (.yield K.l) #[] #[]):=⟨_,rfl⟩
 rw [<- hax1]
 have zx1:ax1.tmps.size=46:=by rw [hax1,size_put];exact hsz
 have tx1_1:tm ax1 1 = .pointer (some ⟨K.bt,K.ot,none⟩):=by rw [hax1,tm_put_other (by omega)];exact t1
 obtain ⟨ox1,ix1,dx1,px1,qx1⟩:=infoAt info106_2 (i:=1) rfl
 simp only at dx1 px1 qx1
 rw [wpOpsIn_cons]
 obtain ⟨u15,hu15,hr15⟩:=ex_loadP (a:=ax1) (w:=W1) (t:=BKT) (by kernel_rfl) px1 tx1_1 hat.bk
 obtain ⟨cs,rfl,hcs⟩:=hu15
 obtain ⟨x0,x1,x2,x3,x4,x5,x6,rfl⟩:∃ x0 x1 x2 x3 x4 x5 x6,cs=[x0,x1,x2,x3,x4,x5,x6]:=by
  have hl:cs.length=7:=RepC.length _ _ _ hcs
  match cs,hl with
  | [x0,x1,x2,x3,x4,x5,x6],_=>exact ⟨x0,x1,x2,x3,x4,x5,x6,rfl⟩
 have hr15:(execOp (ax1).eval ox1).run Tryz.prog W1 = .ok (.value (.agg #[x0,x1,x2,x3,x4,x5,x6])) W1:=hr15
 refine opr_value ix1 (wanted_none qx1) (fun c h=>by rw [px1] at h;cases h) hr15 ?_
 rw [dx1]
 obtain ⟨ax2,hax2⟩:∃ zz:Act,zz=Act.put ax1 (some 15) (.agg #[x0,x1,x2,x3,x4,x5,x6]):=⟨_,rfl⟩
 rw [<- hax2]
 have zx2:ax2.tmps.size=46:=by rw [hax2,size_put];exact zx1
 have tx1_0:tm ax1 0 = .slice ad n c:=by rw [hax1,tm_put_other (by omega)];exact t0
 have tx2_0:tm ax2 0 = .slice ad n c:=by rw [hax2,tm_put_other (by omega)];exact tx1_0
 obtain ⟨ox2,ix2,dx2,px2,qx2⟩:=infoAt info106_2 (i:=2) rfl
 simp only at dx2 px2 qx2
 rw [wpOpsIn_cons]
 refine opr_value ix2 (wanted_none qx2) (fun c h=>by rw [px2] at h;cases h) (ex_move px2) ?_
 rw [dx2,tx2_0]
 obtain ⟨ax3,hax3⟩:∃ zz:Act,zz=Act.put ax2 (some 16) (.slice ad n c):=⟨_,rfl⟩
 rw [<- hax3]
 have zx3:ax3.tmps.size=46:=by rw [hax3,size_put];exact zx2
 have tx2_15:tm ax2 15 = .agg #[x0,x1,x2,x3,x4,x5,x6]:=by rw [hax2];exact tm_put_same (by omega)
 have tx3_15:tm ax3 15 = .agg #[x0,x1,x2,x3,x4,x5,x6]:=by rw [hax3,tm_put_other (by omega)];exact tx2_15
 have tx3_16:tm ax3 16 = .slice ad n c:=by rw [hax3];exact tm_put_same (by omega)
 obtain ⟨ox3,ix3,dx3,px3,qx3⟩:=infoAt info106_2 (i:=3) rfl
 simp only at dx3 px3 qx3
 rw [wpOpsIn_cons]
 refine opr_value ix3 (wanted_none qx3) (fun c h=>by rw [px3] at h;cases h) (ex_build86 px3 tx3_15 tx3_16) ?_
 rw [dx3]
 obtain ⟨ax4,hax4⟩:∃ zz:Act,zz=Act.put ax3 (some 17) (.agg #[x0,x1,x2,x3,x4,x5,x6,.slice ad n c]):=⟨_,rfl⟩
 rw [<- hax4]
 have zx4:ax4.tmps.size=46:=by rw [hax4,size_put];exact zx3
 have tx1_14:tm ax1 14 = .func (.yield K.l) #[] #[]:=by rw [hax1];exact tm_put_same (by omega)
 have tx2_14:tm ax2 14 = .func (.yield K.l) #[] #[]:=by rw [hax2,tm_put_other (by omega)];exact tx1_14
 have tx3_14:tm ax3 14 = .func (.yield K.l) #[] #[]:=by rw [hax3,tm_put_other (by omega)];exact tx2_14
 have tx4_14:tm ax4 14 = .func (.yield K.l) #[] #[]:=by rw [hax4,tm_put_other (by omega)];exact tx3_14
 have tx4_17:tm ax4 17 = .agg #[x0,x1,x2,x3,x4,x5,x6,.slice ad n c]:=by rw [hax4];exact tm_put_same (by omega)
 obtain ⟨ox4,ix4,dx4,px4,qx4⟩:=infoAt info106_2 (i:=4) rfl
 simp only at dx4 px4 qx4
 rw [wpOpsIn_cons]
 have hrepy:RepV M1 W1 ACCT (.agg #[x0,x1,x2,x3,x4,x5,x6,.slice ad n c]) K.y:=by
  rw [hy]
  exact ⟨[x0,x1,x2,x3,x4,x5,x6,.slice ad n c],rfl,[x0,x1,x2,x3,x4,x5,x6],[.slice ad n c],rfl,hcs,[.slice ad n c],[],rfl,hv,rfl⟩
 obtain ⟨fn,tmps,assign,body,hyr,hround⟩:=hK.round _ _ _ hat.j hrepy
 refine opn_round ix4 (wanted_none qx4) (fun c h=>by rw [px4] at h;cases h) (ex_yieldA px4 tx4_14 tx4_17 hyr) (hround.mono ?_)
 intro e W2 he
 have hex:∃ u,e = .returned u/\K.Post M1 W1 (.returned u) W2:=by
  rcases he with ⟨rfl,M2,q1,q2⟩|⟨rfl,q1⟩
  . exact ⟨_,rfl,.inl ⟨rfl,M2,KT.At.round hK hat q1 q2,q2.stable⟩⟩
  . exact ⟨_,rfl,.inr ⟨rfl,q1⟩⟩
 obtain ⟨u,rfl,hu⟩:=hex
 refine ⟨u,rfl,?_⟩
 rw [dx4]
 obtain ⟨ax5,hax5⟩:∃ zz:Act,zz=Act.put ax4 (some 18) (u):=⟨_,rfl⟩
 rw [<- hax5]
 have zx5:ax5.tmps.size=46:=by rw [hax5,size_put];exact zx4
 have tx5_18:tm ax5 18=u:=by rw [hax5];exact tm_put_same (by omega)
 obtain ⟨ox5,ix5,dx5,px5,qx5⟩:=infoAt info106_2 (i:=5) rfl
 simp only at dx5 px5 qx5
 rw [wpOpsIn_cons]
 refine opr_value ix5 (wanted_none qx5) (fun c h=>by rw [px5] at h;cases h) (ex_assign px5) ?_
 rw [dx5,tx5_18]
 obtain ⟨ax6,hax6⟩:∃ zz:Act,zz=Act.put ax5 (some 5) (u):=⟨_,rfl⟩
 rw [<- hax6]
 have zx6:ax6.tmps.size=46:=by rw [hax6,size_put];exact zx5
 have tx6_5:tm ax6 5=u:=by rw [hax6];exact tm_put_same (by omega)
 exact hQ ax6 W2 u (by rw [hax6,defers_put,hax5,defers_put,hax4,defers_put,hax3,defers_put,hax2,defers_put,hax1,defers_put];exact hd) tx6_5 hu
end
theorem leave106 {R:Ending->World->Prop} {a:Act} {w:World} {u:Value} (hd:a.defers=[]) (h5:tm a 5=u) (h:R (.returned u) w):LeavesInM Fence.wide 0 Tryz.prog Tryz.f106 a.tmps R a.defers .returning w:=by
 rw [hd]
 exact ⟨_,results106,by rw [h5];exact h⟩
def lowsB (bk:BKD):List Int:=bk.2.2.2.2.2.2.1.map fun ln=>ln.2.2.1.1
theorem from_calls {K:KT} (hK:K.OK) (hone:∀ (j:Nat) (ln:LIN),K.bk.2.2.2.2.2.2.1[j]? = some ln->ln.2.2.1.2.1=ln.2.2.1.1 /\ -1000000000<ln.2.2.1.1/\ln.2.2.1.1<1000000000) (hlen:K.bk.2.2.2.2.2.2.1.length<1000000) (hy:K.y=(K.bk,(lowsB K.bk,()))) :
 ∀ (k:Nat) (now:List Int) (M1:Mut) (W1:World) (u:Value),now=(lowsB K.bk).take now.length->now.length+k=(lowsB K.bk).length->K.At 0 M1 W1->RepV M1 W1 (.list (.int .i64)) u now->Calls Tryz.prog 106 #[u,K.PT,K.PY,K.PP] W1 (K.Post M1 W1):=by
 intro k
 induction k with
 | zero =>
  intro now M1 W1 u hnow hk hat hv
  have hl:(lowsB K.bk).length=K.bk.2.2.2.2.2.2.1.length:=by unfold lowsB;simp
  obtain ⟨⟨ad,n,c,rfl⟩,hvc⟩:=repV_slice hv
  have hn:n=now.length:=by obtain ⟨_,_,e,_⟩:=hvc;cases e;rfl
  have hnl:now=lowsB K.bk:=by rw [hnow,List.take_of_length_le (by omega)]
  refine callsIn_wide.1 (callsIn_of_wp_marks (n:=0) Tryz.func106 some106 trivial ?_)
  show (bodyOf Tryz.f106).wpIn (fen none) 0 Tryz.prog _ { tmps := #[.slice ad n c,K.PT,K.PY,K.PP]++Array.replicate (46 - 4) undef,defers:=[] } W1
  rw [body106]
  refine wpIn_seq (y0_wp (by simp) rfl fun a1 z1 d1 m1 _=>?_)
  have s0:tm a1 0 = .slice ad n c:=by rw [m1 0 (by omega)];simp [tm]
  have s1:tm a1 1 = .pointer (some ⟨K.bt,K.ot,none⟩):=by rw [m1 1 (by omega)];simp [tm,KT.PT]
  have s2:tm a1 2 = .pointer (some ⟨K.ya,0,none⟩):=by rw [m1 2 (by omega)];simp [tm,KT.PY]
  refine wpIn_seq (wpIn_seq (y1_wp hat z1 d1 s0 s1 fun a2 z2 d2 m2 t13=>?_))
  have e13:((n:Int)==(K.bk.2.2.2.2.2.2.1.length:Int))=true:=by rw [beq_iff_eq];omega
  rw [e13] at t13
  refine wpIn_cond (t:=true) t13 ?_
  simp only [if_true]
  refine wpIn_seq (y2_wp hK hat hvc (by rw [hy,hnl]) z2 d2 (by rw [m2 0 (by omega)];exact s0) (by rw [m2 1 (by omega)];exact s1) (by rw [m2 2 (by omega)];exact s2) fun a3 w3 v d3 t5 hp=>?_)
  exact wpIn_ret (leave106 d3 t5 hp)
 | succ k ih =>
  intro now M1 W1 u hnow hk hat hv
  have hl:(lowsB K.bk).length=K.bk.2.2.2.2.2.2.1.length:=by unfold lowsB;simp
  obtain ⟨⟨ad,n,c,rfl⟩,hvc⟩:=repV_slice hv
  have hn:n=now.length:=by obtain ⟨_,_,e,_⟩:=hvc;cases e;rfl
  obtain ⟨ln,hj⟩:∃ ln,K.bk.2.2.2.2.2.2.1[n]? = some ln:=⟨_,List.getElem?_eq_getElem (by omega)⟩
  obtain ⟨hhi,hb1,hb2⟩:=hone n ln hj
  have hnext:now++[ln.2.2.1.1]=(lowsB K.bk).take (now++[ln.2.2.1.1]).length:=by
   have h1:(lowsB K.bk)[now.length]? = some ln.2.2.1.1:=by unfold lowsB;rw [List.getElem?_map,<- hn,hj];rfl
   rw [List.length_append,List.length_singleton,List.take_add_one,<- hnow,h1]
   rfl
  refine callsIn_wide.1 (callsIn_of_wp_marks (n:=0) Tryz.func106 some106 trivial ?_)
  show (bodyOf Tryz.f106).wpIn (fen none) 0 Tryz.prog _ { tmps := #[.slice ad n c,K.PT,K.PY,K.PP]++Array.replicate (46 - 4) undef,defers:=[] } W1
  rw [body106]
  refine wpIn_seq (y0_wp (by simp) rfl fun a1 z1 d1 m1 _=>?_)
  have s0:tm a1 0 = .slice ad n c:=by rw [m1 0 (by omega)];simp [tm]
  have s1:tm a1 1 = .pointer (some ⟨K.bt,K.ot,none⟩):=by rw [m1 1 (by omega)];simp [tm,KT.PT]
  have s3:tm a1 3=K.PP:=by rw [m1 3 (by omega)];simp [tm]
  refine wpIn_seq (wpIn_seq (y1_wp hat z1 d1 s0 s1 fun a2 z2 d2 m2 t13=>?_))
  have e13:((n:Int)==(K.bk.2.2.2.2.2.2.1.length:Int))=false:=by rw [beq_eq_false_iff_ne];omega
  rw [e13] at t13
  refine wpIn_cond (t:=false) t13 ?_
  simp only [Bool.false_eq_true,if_false]
  refine wpIn_skip ?_
  show Code.wpIn (fen none) 0 Tryz.prog (.seq (.region 3 r106_3 false) (.seq (.seq (.region 4 r106_4 false) (.block 0 (.loop lb106))) (.seq (.region 9 r106_9 false) .ret))) _ a2 W1
  refine wpIn_seq (y3_wp hat hj z2 d2 (by rw [m2 0 (by omega)];exact s0) (by rw [m2 1 (by omega)];exact s1) fun a3 w3 z3 d3 m3 t6 c0 c1 hb3=>?_)
  have hat3:=hat.go hK hb3
  have hvc3:RepC M1 w3 (.list (.int .i64)) [.slice ad n c] now:=RepC.mono (stable_below hb3) _ _ _ hvc
  refine wpIn_seq (wpIn_seq (y4_wp c0 z3 d3 t6 fun a4 z4 d4 m4 t7=>?_))
  rw [hhi] at c1
  refine wpIn_block (wpIn_loop_rounds 2 ?_)
  rw [roundsIn_succ]
  show Code.wpIn (fen none) 0 Tryz.prog (.seq (.seq (.region 5 r106_5 false) (.cond (.tmp 31) .skip (.exit 0))) (.seq (.block 1 (.seq (.region 7 r106_7 true) (.cond (.tmp 45) (.seq (.region 8 r106_8 false) .ret) .skip))) (.region 6 r106_6 false))) _ a4 w3
  have u6:tm a4 6 = .pointer (some ⟨W1.heap.size,0,none⟩):=by rw [m4 6 (by omega)];exact t6
  refine wpIn_seq (wpIn_seq (y5_wp c1 z4 d4 u6 t7 fun a5 z5 d5 m5 t31=>?_))
  rw [decide_eq_true (by omega)] at t31
  refine wpIn_cond (t:=true) t31 ?_
  simp only [if_true]
  refine wpIn_skip (wpIn_seq (wpIn_block (wpIn_seq ?_)))
  have hm:∀ j,j<6->tm a5 j=tm a1 j:=fun j hj=>by rw [m5 j (by omega),m4 j (by omega),m3 j (by omega),m2 j (by omega)]
  refine r7_wp (z:=ln.2.2.1.1) hK hat3 hvc3 (by omega) (fun W2 v ha hr=>ih _ M1 W2 v hnext (by rw [List.length_append,List.length_singleton];omega) ha hr) z5 d5 ((hm 0 (by omega)).trans s0) ((hm 3 (by omega)).trans s3) (by rw [m5 7 (by omega)];exact t7) fun a6 w6 z6 d6 m6 h6=>?_
  rcases h6 with ⟨t45,M2,hat6,hst6⟩|⟨t45,hx⟩
  . refine wpIn_cond (t:=false) t45 ?_
    simp only [Bool.false_eq_true,if_false]
    refine wpIn_skip ?_
    show Code.wpIn (fen none) 0 Tryz.prog (.region 6 r106_6 false) _ a6 w6
    refine y6_wp (z:=ln.2.2.1.1) z6 d6 (by rw [m6 7 (by omega),m5 7 (by omega)];exact t7) fun a7 z7 d7 m7 t7'=>?_
    show Code.roundsIn (fen none) 0 Tryz.prog lb106 _ 1 a7 w6
    rw [roundsIn_succ]
    show Code.wpIn (fen none) 0 Tryz.prog (.seq (.seq (.region 5 r106_5 false) (.cond (.tmp 31) .skip (.exit 0))) (.seq (.block 1 (.seq (.region 7 r106_7 true) (.cond (.tmp 45) (.seq (.region 8 r106_8 false) .ret) .skip))) (.region 6 r106_6 false))) _ a7 w6
    have hno:∀ o,¬ M1 W1.heap.size o:=fun o h=>by have:=(hat.mu _ o h).1;omega
    have c1':=(hst6 _ _ _ c1 (hno _)).1
    refine wpIn_seq (wpIn_seq (y5_wp c1' z7 d7 (by rw [m7 6 (by omega),m6 6 (by omega),m5 6 (by omega)];exact u6) t7' fun a8 z8 d8 m8 t31=>?_))
    rw [wr (by omega) (by omega),decide_eq_false (by omega)] at t31
    refine wpIn_cond (t:=false) t31 ?_
    simp only [Bool.false_eq_true,if_false]
    refine wpIn_exit ?_
    show Code.wpIn (fen none) 0 Tryz.prog (.seq (.region 9 r106_9 false) .ret) _ a8 w6
    refine wpIn_seq (y9_wp z8 d8 fun a9 z9 d9 m9 t5=>?_)
    exact wpIn_ret (leave106 d9 t5 (.inl ⟨rfl,M2,hat6,(stable_below hb3).trans hst6⟩))
  . refine wpIn_cond (t:=true) t45 ?_
    simp only [if_true]
    refine wpIn_seq (y8_wp z6 d6 fun a7 z7 d7 m7 t5=>?_)
    exact wpIn_ret (leave106 d7 t5 (.inr ⟨rfl,hx⟩))
end Go.V
namespace Go.V
open Go.Proofs
open Go.RowKit (Below)
noncomputable def r105_0:Array Oper:=regAt 0 (bodyOf Tryz.f105)
theorem info105_0:r105_0.toList.map opInfo=[(some 2,.box 89 (.tmp 0),none)]:=by kernel_rfl
noncomputable def r105_1:Array Oper:=regAt 1 (bodyOf Tryz.f105)
theorem info105_1:r105_1.toList.map opInfo=[(some 3,.alloc 131,none)]:=by kernel_rfl
noncomputable def r105_2:Array Oper:=regAt 2 (bodyOf Tryz.f105)
theorem info105_2:r105_2.toList.map opInfo=[(some 4,.makeFunc (.func 106) #[] #[.tmp 1,.tmp 2,.tmp 3],none),
 (none,.store 131 (.tmp 3) (.tmp 4),none)]:=by kernel_rfl
noncomputable def r105_3:Array Oper:=regAt 3 (bodyOf Tryz.f105)
theorem info105_3:r105_3.toList.map opInfo=[(some 5,.load 131 (.tmp 3),none),
 (some 6,.call { callee:=.value (.tmp 5),args := #[.const (.slice none 0 0)],argTypes := #[29] },none)]:=by kernel_rfl
theorem body105:bodyOf Tryz.f105 = .seq (.region 0 r105_0 false) (.seq (.region 1 r105_1 false) (.seq (.region 2 r105_2 false) (.region 3 r105_3 false))):=by kernel_rfl
theorem some105:Tryz.f105.body=some (bodyOf Tryz.f105):=by kernel_rfl
theorem results105 {a:Act} {w:World}:(results Tryz.f105 a.tmps).run Tryz.prog w = .ok (.tuple #[]) w:=by
 simp [results,Tryz.results105,go_sem]
section
variable {a : Act} {w : World} {o : Oper}
theorem ex_box89 {p:Nat} (ho:o.op = .box 89 (.tmp p)) {f:Fn} {x y:Array Value} (h:tm a p = .func f x y):(execOp a.eval o).run Tryz.prog w = .ok (.value (.pointer (some ⟨w.heap.size,0,none⟩))) (w.alloc (.cells #[.func f x y] 89)):=by
 have e:a.eval (.tmp p) = .func f x y:=h
 simp only [execOp,ho,e]
 simp [go_sem]
theorem ex_alloc131 (ho:o.op = .alloc 131):(execOp a.eval o).run Tryz.prog w = .ok (.value (.pointer (some ⟨w.heap.size,0,none⟩))) (w.alloc (.cells #[.nilFunc] 131)):=by
 simp only [execOp,ho]
 simp [go_sem]
theorem ex_make106 (ho:o.op = .makeFunc (.func 106) #[] #[.tmp 1,.tmp 2,.tmp 3]) {p1 p2 p3:Value} (h1:tm a 1=p1) (h2:tm a 2=p2) (h3:tm a 3=p3):(execOp a.eval o).run Tryz.prog w = .ok (.value (.func (.func 106) #[] #[p1,p2,p3])) w:=by
 have e1:a.eval (.tmp 1)=p1:=h1
 have e2:a.eval (.tmp 2)=p2:=h2
 have e3:a.eval (.tmp 3)=p3:=h3
 simp only [execOp,ho,List.map_toArray,List.map_cons,List.map_nil,e1,e2,e3]
 simp [go_sem,Instr.makeFunc]
theorem ex_callK {p g:Nat} {T:Array Nat} {k:Value} (hent:enters Tryz.prog g=true) (ho:o.op = .call { callee:=.value (.tmp p),args := #[.const k],argTypes:=T }) {pc:Array Value} (h0:tm a p = .func (.func g) #[] pc):(execOp a.eval o).run Tryz.prog w = .ok (.enter g (#[] ++ #[k]++pc)) w:=by
 have e0:a.eval (.tmp p) = .func (.func g) #[] pc:=h0
 have e1:a.eval (.const k)=k:=rfl
 have e3:=fun args=>enters_run (P:=Tryz.prog) (g:=g) hent args w
 simp [execOp,ho,resolve,e0,e1,Deferred.ofValue,invoke,e3]
end
def oneB (bk:BKD):Bool:=decide (bk.2.2.2.2.2.2.1.length<1000000) && bk.2.2.2.2.2.2.1.all fun ln=>decide (ln.2.2.1.2.1=ln.2.2.1.1) && (decide (-1000000000<ln.2.2.1.1) && decide (ln.2.2.1.1<1000000000))
theorem oneB_line {bk:BKD} (h:oneB bk=true) {j:Nat} {ln:LIN} (hj:bk.2.2.2.2.2.2.1[j]? = some ln):ln.2.2.1.2.1=ln.2.2.1.1 /\ -1000000000<ln.2.2.1.1/\ln.2.2.1.1<1000000000:=by
 unfold oneB at h
 rw [Bool.and_eq_true] at h
 have:=List.all_eq_true.1 h.2 ln (List.mem_of_getElem? hj)
 simpa using this
theorem oneB_len {bk:BKD} (h:oneB bk=true):bk.2.2.2.2.2.2.1.length<1000000:=by
 unfold oneB at h
 rw [Bool.and_eq_true] at h
 exact of_decide_eq_true h.1
noncomputable def f105 (x:Unit×BKD×Unit):Out (List ACC):=bif oneB x.2.1 then .ret [(x.2.1,(lowsB x.2.1,()))] else .fail
noncomputable def sp105:Spec:=⟨105,.iter,.clo 105 .unit (.prod (.ptr BKT) .unit),.list ACCT,false,false,f105⟩
theorem truths_calls {W:World} {N0:Mut} {J:Nat->Mut->World->Prop} {Jx:World->Prop} {R:Nat->Prop} {bk:BKD} {l b o:Nat} (h1:oneB bk=true) (hp:RepV N0 W (.ptr BKT) (.pointer (some ⟨b,o,none⟩)) bk) (hlt:∀ b o,N0 b o->b<W.heap.size) (hR:∀ b,R b->b<W.heap.size)
 (hJ:∀ i M1 W1 W2,J i M1 W1->IterStep W W1 W2->J i M1 W2) (hJx:∀ W1 W2,Jx W1->IterStep W W1 W2->Jx W2)
 (hround:∀ M1 W1 u,J 0 M1 W1->RepV M1 W1 ACCT u (bk,(lowsB bk,()))->∃ fn tmps assign body,(Instr.yield l #[u]).run Tryz.prog W1 = .ok (.round l fn tmps assign body) W1 /\
  RoundIn Fence.wide 0 Tryz.prog l fn tmps assign body W1 fun r W2=>(r = .returned (.bool true)/\∃ M2,J 1 M2 W2/\RoundKeeps R M1 W1 M2 W2)\/(r = .returned (.bool false)/\Jx W2))
 (hJ0:J 0 N0 W) :
 Calls Tryz.prog 105 #[.func (.yield l) #[] #[],.pointer (some ⟨b,o,none⟩)] W fun r W'=>(∃ u,r = .returned u)/\((∃ M1,J 1 M1 W')\/Jx W'):=by
 refine callsIn_wide.1 (callsIn_of_wp_marks (n:=0) Tryz.func105 some105 trivial ?_)
 show (bodyOf Tryz.f105).wpIn (fen none) 0 Tryz.prog _ { tmps := #[.func (.yield l) #[] #[],.pointer (some ⟨b,o,none⟩)]++Array.replicate (7 - 2) undef,defers:=[] } W
 obtain ⟨a0,ha0⟩:∃ a0:Act,a0={ tmps := #[.func (.yield l) #[] #[],.pointer (some ⟨b,o,none⟩)]++Array.replicate (7 - 2) undef,defers:=[] }:=⟨_,rfl⟩
 rw [<- ha0,body105]
 have z0:a0.tmps.size=7:=by rw [ha0];simp
 have t0:tm a0 0 = .func (.yield l) #[] #[]:=by rw [ha0];simp [tm]
 have t1:tm a0 1 = .pointer (some ⟨b,o,none⟩):=by rw [ha0];simp [tm]
 have hd0:a0.defers=[]:=by rw [ha0]
 refine wpIn_seq ?_
 refine wpIn_region ?_
 rw [show r105_0.size=1 by kernel_rfl]
 show wpOpsIn (fen none) 0 Tryz.prog r105_0 _ [0] a0 W
 obtain ⟨ox0,ix0,dx0,px0,qx0⟩:=infoAt info105_0 (i:=0) rfl
 simp only at dx0 px0 qx0
 rw [wpOpsIn_cons]
 refine opr_value ix0 (wanted_none qx0) (fun c h=>by rw [px0] at h;cases h) (ex_box89 px0 t0) ?_
 rw [dx0]
 obtain ⟨ax1,hax1⟩:∃ zz:Act,zz=Act.put a0 (some 2) (.pointer (some ⟨W.heap.size,0,none⟩)):=⟨_,rfl⟩
 rw [<- hax1]
 have zx1:ax1.tmps.size=7:=by rw [hax1,size_put];exact z0
 obtain ⟨w1,hw1⟩:∃ b:World,b=W.alloc (.cells #[.func (.yield l) #[] #[]] 89):=⟨_,rfl⟩
 rw [<- hw1]
 have l1:w1.heap.size=W.heap.size+1:=by rw [hw1];simp
 refine wpIn_seq ?_
 have tx1_1:tm ax1 1 = .pointer (some ⟨b,o,none⟩):=by rw [hax1,tm_put_other (by omega)];exact t1
 have tx1_2:tm ax1 2 = .pointer (some ⟨W.heap.size,0,none⟩):=by rw [hax1];exact tm_put_same (by omega)
 refine wpIn_region ?_
 rw [show r105_1.size=1 by kernel_rfl]
 show wpOpsIn (fen none) 0 Tryz.prog r105_1 _ [0] ax1 w1
 obtain ⟨oy0,iy0,dy0,py0,qy0⟩:=infoAt info105_1 (i:=0) rfl
 simp only at dy0 py0 qy0
 rw [wpOpsIn_cons]
 refine opr_value iy0 (wanted_none qy0) (fun c h=>by rw [py0] at h;cases h) (ex_alloc131 py0) ?_
 rw [dy0]
 obtain ⟨ay1,hay1⟩:∃ zz:Act,zz=Act.put ax1 (some 3) (.pointer (some ⟨w1.heap.size,0,none⟩)):=⟨_,rfl⟩
 rw [<- hay1]
 have zy1:ay1.tmps.size=7:=by rw [hay1,size_put];exact zx1
 obtain ⟨w2,hw2⟩:∃ b:World,b=w1.alloc (.cells #[.nilFunc] 131):=⟨_,rfl⟩
 rw [<- hw2]
 have c2:w2.heap[w1.heap.size]? = some (.cells #[.nilFunc] 131 (0,0)):=by rw [hw2];exact heap_alloc_new w1 _
 refine wpIn_seq ?_
 have ty1_1:tm ay1 1 = .pointer (some ⟨b,o,none⟩):=by rw [hay1,tm_put_other (by omega)];exact tx1_1
 have ty1_2:tm ay1 2 = .pointer (some ⟨W.heap.size,0,none⟩):=by rw [hay1,tm_put_other (by omega)];exact tx1_2
 have ty1_3:tm ay1 3 = .pointer (some ⟨w1.heap.size,0,none⟩):=by rw [hay1];exact tm_put_same (by omega)
 refine wpIn_region ?_
 rw [show r105_2.size=2 by kernel_rfl]
 show wpOpsIn (fen none) 0 Tryz.prog r105_2 _ [0,1] ay1 w2
 obtain ⟨oz0,iz0,dz0,pz0,qz0⟩:=infoAt info105_2 (i:=0) rfl
 simp only at dz0 pz0 qz0
 rw [wpOpsIn_cons]
 refine opr_value iz0 (wanted_none qz0) (fun c h=>by rw [pz0] at h;cases h) (ex_make106 pz0 ty1_1 ty1_2 ty1_3) ?_
 rw [dz0]
 obtain ⟨az1,haz1⟩:∃ zz:Act,zz=Act.put ay1 (some 4) (.func (.func 106) #[] #[.pointer (some ⟨b,o,none⟩),.pointer (some ⟨W.heap.size,0,none⟩),.pointer (some ⟨w1.heap.size,0,none⟩)]):=⟨_,rfl⟩
 rw [<- haz1]
 have zz1:az1.tmps.size=7:=by rw [haz1,size_put];exact zy1
 have tz1_3:tm az1 3 = .pointer (some ⟨w1.heap.size,0,none⟩):=by rw [haz1,tm_put_other (by omega)];exact ty1_3
 have tz1_4:tm az1 4 = .func (.func 106) #[] #[.pointer (some ⟨b,o,none⟩),.pointer (some ⟨W.heap.size,0,none⟩),.pointer (some ⟨w1.heap.size,0,none⟩)]:=by rw [haz1];exact tm_put_same (by omega)
 obtain ⟨oz1,iz1,dz1,pz1,qz1⟩:=infoAt info105_2 (i:=1) rfl
 simp only at dz1 pz1 qz1
 rw [wpOpsIn_cons]
 refine opr_skipped iz1 (wanted_none qz1) (fun c h=>by rw [pz1] at h;cases h) (ex_store1 (T:=131) (t:=.raw) (by kernel_rfl) rfl pz1 tz1_3 tz1_4 rfl rfl c2) ?_
 rw [dz1,put_none]
 obtain ⟨w3,hw3⟩:∃ bb:World,bb=w2.setRow w1.heap.size #[.func (.func 106) #[] #[.pointer (some ⟨b,o,none⟩),.pointer (some ⟨W.heap.size,0,none⟩),.pointer (some ⟨w1.heap.size,0,none⟩)]]:=⟨_,rfl⟩
 rw [<- hw3]
 have c3:w3.heap[w1.heap.size]? = some (.cells #[.func (.func 106) #[] #[.pointer (some ⟨b,o,none⟩),.pointer (some ⟨W.heap.size,0,none⟩),.pointer (some ⟨w1.heap.size,0,none⟩)]] 131 (0,0)):=by rw [hw3];exact setRow_same c2
 refine wpIn_region ?_
 rw [show r105_3.size=2 by kernel_rfl]
 show wpOpsIn (fen none) 0 Tryz.prog r105_3 _ [0,1] az1 w3
 obtain ⟨ot0,it0,dt0,pt0,qt0⟩:=infoAt info105_3 (i:=0) rfl
 simp only at dt0 pt0 qt0
 rw [wpOpsIn_cons]
 refine opr_value it0 (wanted_none qt0) (fun c h=>by rw [pt0] at h;cases h) (ex_load1 (T:=131) (t:=.raw) (by kernel_rfl) rfl rfl pt0 tz1_3 c3) ?_
 rw [dt0]
 obtain ⟨at1,hat1⟩:∃ zz:Act,zz=Act.put az1 (some 5) (.func (.func 106) #[] #[.pointer (some ⟨b,o,none⟩),.pointer (some ⟨W.heap.size,0,none⟩),.pointer (some ⟨w1.heap.size,0,none⟩)]):=⟨_,rfl⟩
 rw [<- hat1]
 have zt1:at1.tmps.size=7:=by rw [hat1,size_put];exact zz1
 have tt1_5:tm at1 5 = .func (.func 106) #[] #[.pointer (some ⟨b,o,none⟩),.pointer (some ⟨W.heap.size,0,none⟩),.pointer (some ⟨w1.heap.size,0,none⟩)]:=by rw [hat1];exact tm_put_same (by omega)
 obtain ⟨ot1,it1,dt1,pt1,qt1⟩:=infoAt info105_3 (i:=1) rfl
 simp only at dt1 pt1 qt1
 rw [wpOpsIn_cons]
 have l2:w2.heap.size=W.heap.size+2:=by rw [hw2];simp;omega
 have l3:w3.heap.size=W.heap.size+2:=by rw [hw3,setRow_size];exact l2
 have hold:∀ k,k<=W.heap.size->w3.heap[k]? = w1.heap[k]? := fun k hk=>by rw [hw3,setRow_other (by omega),hw2,heap_alloc_old w1 _ (by omega)]
 have hold0:∀ k,k<W.heap.size->w3.heap[k]? = W.heap[k]? := fun k hk=>by rw [hold k (by omega),hw1,heap_alloc_old W _ hk]
 have hb3:Below W.heap.size W w3:=⟨by rw [hw3,hw2,hw1];rfl,by rw [hw3,hw2,hw1];rfl,by rw [hw3,hw2,hw1];rfl,by omega,hold0⟩
 obtain ⟨K,hKe⟩:∃ K:KT,K={ J:=J,Jx:=Jx,W:=W,l:=l,ya:=W.heap.size,pa:=w1.heap.size,bt:=b,ot:=o,bk:=bk,y:=(bk,(lowsB bk,())),R:=R }:=⟨_,rfl⟩
 have hK:K.OK:=by
  subst hKe
  exact ⟨Nat.le_refl _,by show W.heap.size<=w1.heap.size;omega,hJ,hJx,hR,hround⟩
 have hat:K.At 0 N0 w3:=by
  subst hKe
  refine ⟨hJ _ _ _ _ hJ0 ⟨hb3,fun k ob e _=>(hold0 k (Array.getElem?_eq_some_iff.1 e).1).trans e⟩,hb3.size,?_,c3,fun k o' h=>?_,RepV.mono (stable_below hb3) hp⟩
  . show w3.heap[W.heap.size]? = _
    rw [hold _ (Nat.le_refl _),hw1];exact heap_alloc_new W _
  . have:=hlt k o' h
    refine ⟨by omega,?_,?_⟩
    . show k≠W.heap.size;omega
    . show k≠w1.heap.size;omega
 have hcall:=from_calls hK (fun j ln hj=>by rw [hKe] at hj;exact oneB_line h1 hj) (by rw [hKe];exact oneB_len h1) (by rw [hKe]) (lowsB K.bk).length [] N0 w3 (.slice none 0 0) rfl (by simp) hat ⟨_,rfl,RepC.list_nil _⟩
 have hcall:Calls Tryz.prog 106 (#[] ++ #[.slice none 0 0] ++ #[.pointer (some ⟨b,o,none⟩),.pointer (some ⟨W.heap.size,0,none⟩),.pointer (some ⟨w1.heap.size,0,none⟩)]) w3 (K.Post N0 w3):=by rw [hKe] at hcall ⊢;exact hcall
 refine opr_enter (ro:=none) it1 (wanted_none qt1) (fun c h=>by rw [pt1] at h;cases h) (ex_callK (g:=106) (by kernel_rfl) pt1 tt1_5) (hcall.mono ?_)
 intro e w' he
 have hex:∃ u,e = .returned u/\((∃ M1,J 1 M1 w')\/Jx w'):=by
  subst hKe
  rcases he with ⟨rfl,M2,h,_⟩|⟨rfl,h⟩
  . exact ⟨_,rfl,.inl ⟨M2,h.j⟩⟩
  . exact ⟨_,rfl,.inr h⟩
 obtain ⟨u,rfl,hu⟩:=hex
 refine ⟨u,rfl,?_⟩
 rw [dt1]
 obtain ⟨at2,hat2⟩:∃ zz:Act,zz=Act.put at1 (some 6) (u):=⟨_,rfl⟩
 rw [<- hat2]
 have zt2:at2.tmps.size=7:=by rw [hat2,size_put];exact zt1
 show LeavesInM Fence.wide 0 Tryz.prog Tryz.f105 at2.tmps _ at2.defers .returning w'
 have hd:at2.defers=[]:=by rw [hat2,defers_put,hat1,defers_put,haz1,defers_put,hay1,defers_put,hax1,defers_put];exact hd0
 rw [hd]
 exact ⟨_,results105,⟨_,rfl⟩,hu⟩
theorem items105 (x:Unit×BKD×Unit):itemsOf sp105 x=match f105 x with
 | .ret r=>some ⟨ACCT,r⟩
 | _=>none:=by
 unfold itemsOf
 have:sp105.f x=f105 x:=rfl
 rw [this]
 cases f105 x<;>rfl
theorem c105:Contract Tryz.prog sp105:=by
 intro x M w v z hI hv hlt hz
 have hz2:=(items105 x).symm.trans hz
 unfold f105 at hz2
 cases h1:oneB x.2.1 with
 | false=>rw [h1] at hz2;cases hz2
 | true =>
 rw [h1] at hz2
 cases hz2
 obtain ⟨cs,e1,fc,pc,e2,e3,c1,c2,e4,⟨b,o,ec,e5,e6,e7,e8⟩,e9⟩:=hv
 have e9':c2=[]:=e9
 subst e9' e5 e4 e2
 have hv':v = .func (.func 105) #[] #[.pointer (some ⟨b,o,none⟩)]:=e1
 refine ⟨105,#[],#[.pointer (some ⟨b,o,none⟩)],hv',by kernel_rfl,?_⟩
 intro n l R J Jx W N0 hst hsz hIW hN0 hR hJI hJ hJx hround hJ0
 have hp:RepV M w (.ptr BKT) (.pointer (some ⟨b,o,none⟩)) x.2.1:=⟨[_],rfl,b,o,ec,rfl,e6,e7,e8⟩
 exact truths_calls (R:=R) h1 (RepV.mono hst hp) hN0 (fun b h=>(hR b h).1) hJ hJx (fun M1 W1 u h1 h3=>by
  obtain ⟨fn,tmps,assign,body,q1,q2⟩:=hround 0 M1 W1 u _ h1 rfl h3
  exact ⟨fn,tmps,assign,body,q1,q2.1,fun c cs _=>q2.2 c cs (room_wide _)⟩) hJ0
end Go.V
