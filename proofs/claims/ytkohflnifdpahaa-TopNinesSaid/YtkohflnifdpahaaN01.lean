/- A part of the proof of TopNinesSaid: no condition beyond what each theorem says. -/
import Derived.Test.YtkohflnifdpahaaN00
import Derived.Laws.Strings
import Derived.Laws.Concat
set_option linter.all false
namespace Go.V
open Go.RowKit (Below)
section
variable {P : Program} {Φ : Nat → List Spec} {F : Nat → Prop} {M0 : Base} {w0 : World} {M : Mut} {st : St} {a : Act} {w : World} {o : Oper}
def ORun (P:Program) (F:Nat->Prop) (M0:Base) (w0:World) (o:Oper) (a:Act) (w:World) (st':St):Prop :=
  ∃ v w',((execOp a.eval o).run P w = .ok (.value v) w'\/((execOp a.eval o).run P w = .ok .skip w'/\v=undef)) /\
    Fr F w0 w'/\∃ M',Good M0 F M' st' (a.put o.dst v) w'
theorem ORun.same {v:Value} {st':St} (hb:Fr F w0 w) (hr:(execOp a.eval o).run P w = .ok (.value v) w)
    (hg:Good M0 F M st' (a.put o.dst v) w):ORun P F M0 w0 o a w st':=⟨v,w,.inl hr,hb,M,hg⟩
abbrev NoBox (st:St) (o:Oper):Prop:=∀ d,o.dst=some d->isBox (get st d)=false
theorem orun_put (hg:Good M0 F M st a w) (hb:Fr F w0 w) (hnb:NoBox st o) {s:S} {v:Value} {c:Bool} {rd:Nat} {c':Bool} {rd':Nat} {wr:List (Nat×S)}
    (h:put1 o.dst.toList c rd s = .eff c' rd' wr) (hp:plain s=true) (hr:(execOp a.eval o).run P w = .ok (.value v) w) (hs:SlotOK M w st a v s):ORun P F M0 w0 o a w (app wr st):=by
  simp only [put1,Pre.eff.injEq] at h
  obtain ⟨_,_,rfl⟩:=h
  exact .same hb hr (hg.fin hnb hp hs)
theorem plain_ofVal (v:Value):plain (ofVal v)=true:=by
  cases v with
  | slice p n c=>cases p<;>cases n<;>cases c<;>rfl
  | agg cs=>simp only [ofVal];cases ofCells cs.toList<;>rfl
  | _=>rfl
theorem op_move (hg:Good M0 F M st a w) (hb:Fr F w0 w) (hnb:NoBox st o) {x:Operand} (ho:o.op = .move x) {c:Bool} {rd:Nat} {wr:List (Nat×S)}
    (h:vpre P Φ o st = .eff c rd wr):ORun P F M0 w0 o a w (app wr st):=by
  simp only [vpre,ho] at h
  have hr:(execOp a.eval o).run P w = .ok (.value (a.eval x)) w:=by simp [execOp,ho]
  have hx:=opnd_ok hg x
  refine orun_put hg hb hnb (s:=copyOf x (opnd st x)) h ?_ hr ?_
  . cases x with
    | tmp t=>simp only [copyOf];cases opnd st (.tmp t)<;>rfl
    | const v=>simp only [copyOf];exact plain_ofVal v
    | global g=>rfl
    | func f=>rfl
  . cases x with
    | tmp t =>
      simp only [copyOf]
      cases e:opnd st (.tmp t) with
      | own u xs hh=>rw [e] at hx;exact ⟨hx.1,fun _ _ _=>rfl⟩
      | arr u xs hh=>exact fun _ _=>rfl
      | sit xs pos=>trivial
      | box cs =>
        rw [e] at hx
        obtain ⟨b,T,cells,e1,_⟩:=hx
        exact ⟨b,cs,e,e1,e1⟩
      | _=>rw [e] at hx;exact hx
    | const v=>exact hx
    | global g=>exact hx
    | func f=>exact hx
theorem op_unOp (hg:Good M0 F M st a w) (hb:Fr F w0 w) (hnb:NoBox st o) {op:UnOp} {T:TypeId} {x:Operand} (ho:o.op = .unOp op T x) {c:Bool} {rd:Nat} {wr:List (Nat×S)}
    (h:vpre P Φ o st = .eff c rd wr):ORun P F M0 w0 o a w (app wr st):=by
  simp only [vpre,ho] at h
  have hx:=opnd_ok hg x
  unfold preUn at h
  split at h
  . rename_i b e
    rw [e] at hx
    refine orun_put hg hb hnb h rfl (v:=.bool (!b)) ?_ (mk_bool _)
    simp [execOp,ho,Op.unary,slot_bool hx]
  . rename_i k n e
    rw [e] at hx
    refine orun_put hg hb hnb h rfl (v:=.int k (negInt k n)) ?_ (mk_int _ _)
    simp [execOp,ho,Op.unary,slot_int hx,Op.intArith,negInt]
  . cases h
theorem eqG_int {op:BinOp} {T:TypeId} {x y:Operand} {k k':IntKind} {m n:Int}:eqGuard op T x y (.int k m) (.int k' n)=pure ():=by cases op<;>rfl
theorem eqG_str {op:BinOp} {T:TypeId} {x y:Operand} {m n:ByteArray}:eqGuard op T x y (.string m) (.string n)=pure ():=by cases op<;>rfl
theorem eqG_bool {op:BinOp} {T:TypeId} {x y:Operand} {m n:Bool}:eqGuard op T x y (.bool m) (.bool n)=pure ():=by cases op<;>rfl
theorem op_binInt {op:BinOp} {T T':TypeId} {x y:Operand} (hg:Good M0 F M st a w) (hb:Fr F w0 w) (hnb:NoBox st o) (ho:o.op = .binOp op T x y T')
    {k k':IntKind} {m n:Int} (hx:a.eval x = .int k m) (hy:a.eval y = .int k' n) {rd0:Nat} {c:Bool} {rd:Nat} {wr:List (Nat×S)}
    (h:preBinInt o.dst.toList rd0 op k m k' n = .eff c rd wr) (hc:c=true):ORun P F M0 w0 o a w (app wr st):=by
  have hc1:∀ {cc:Bool} {s:S},put1 o.dst.toList cc rd0 s = .eff c rd wr->cc=true:=fun e=>by
    simp only [put1,Pre.eff.injEq] at e;rw [e.1];exact hc
  have hrun:∀ v,(binOp op T (.int k m) (.int k' n)).run P w = .ok v w->(execOp a.eval o).run P w = .ok (.value v) w:=fun v e=>by
    simp [execOp,ho,hx,hy,eqG_int,e]
  unfold preBinInt at h
  split at h
  . have h0:¬ n<0:=by have:=hc1 h;simpa using this
    exact orun_put hg hb hnb h rfl (hrun _ (by simp [binOp,Op.shift,h0])) (mk_int _ _)
  . have h0:¬ n<0:=by have:=hc1 h;simpa using this
    exact orun_put hg hb hnb h rfl (hrun _ (by simp [binOp,Op.shift,h0])) (mk_int _ _)
  . rename_i hs1 hs2
    split at h
    . rename_i hk;subst hk
      split at h
      . exact orun_put hg hb hnb h rfl (hrun _ (by simp [binOp,Op.intArith])) (mk_int _ _)
      . exact orun_put hg hb hnb h rfl (hrun _ (by simp [binOp,Op.intArith])) (mk_int _ _)
      . exact orun_put hg hb hnb h rfl (hrun _ (by simp [binOp,Op.intArith])) (mk_int _ _)
      . have h0:¬ n=0:=by have:=hc1 h;simpa using this
        exact orun_put hg hb hnb h rfl (hrun _ (by simp [binOp,Op.intDiv,h0])) (mk_int _ _)
      . have h0:¬ n=0:=by have:=hc1 h;simpa using this
        exact orun_put hg hb hnb h rfl (hrun _ (by simp [binOp,Op.intDiv,h0])) (mk_int _ _)
      . split at h
        . rename_i c0 e
          cases op<;>simp only [cmpInt] at e<;>first|(cases e;done)|skip
          all_goals
            cases e
            exact orun_put hg hb hnb h rfl (hrun _ (by simp [binOp,Op.intCmp])) (mk_bool _)
        . cases h
    . cases h
theorem op_binStr {op:BinOp} {T T':TypeId} {x y:Operand} (hg:Good M0 F M st a w) (hb:Fr F w0 w) (hnb:NoBox st o) (ho:o.op = .binOp op T x y T')
    {m n:List UInt8} (hx:a.eval x = .string ⟨⟨m⟩⟩) (hy:a.eval y = .string ⟨⟨n⟩⟩) {rd0:Nat} {c:Bool} {rd:Nat} {wr:List (Nat×S)}
    (h:preBinStr o.dst.toList rd0 op m n = .eff c rd wr) (hc:c=true):ORun P F M0 w0 o a w (app wr st):=by
  have hrun:∀ v,(binOp op T (.string ⟨⟨m⟩⟩) (.string ⟨⟨n⟩⟩)).run P w = .ok v w->(execOp a.eval o).run P w = .ok (.value v) w:=fun v e=>by
    simp [execOp,ho,hx,hy,eqG_str,e]
  unfold preBinStr at h
  split at h
  . have h0:m.length+n.length<1000000:=by
      simp only [put1,Pre.eff.injEq] at h;have:=h.1;rw [hc] at this;simpa using this
    refine orun_put hg hb hnb h rfl (hrun (.string ⟨⟨m++n⟩⟩) ?_) (mk_str (m++n))
    have h1:¬ (((⟨⟨m⟩⟩:ByteArray).size+(⟨⟨n⟩⟩:ByteArray).size:Nat):Int) > IntKind.i64.max:=by
      have:IntKind.i64.max=9223372036854775807:=rfl
      rw [this]
      have e1:(⟨⟨m⟩⟩:ByteArray).size=m.length:=rfl
      have e2:(⟨⟨n⟩⟩:ByteArray).size=n.length:=rfl
      rw [e1,e2];omega
    have h2:(⟨⟨m⟩⟩++⟨⟨n⟩⟩:ByteArray)=⟨⟨m++n⟩⟩:=by
      apply ByteArray.ext
      simp
    simp only [binOp,Op.stringOp,if_neg h1,h2]
    rfl
  . exact orun_put hg hb hnb h rfl (hrun (.bool (m==n)) (by simp [binOp,Op.stringOp])) (mk_bool _)
  . exact orun_put hg hb hnb h rfl (hrun (.bool (m != n)) (by simp [binOp,Op.stringOp,bne])) (mk_bool _)
  . cases h
theorem op_binBool {op:BinOp} {T T':TypeId} {x y:Operand} (hg:Good M0 F M st a w) (hb:Fr F w0 w) (hnb:NoBox st o) (ho:o.op = .binOp op T x y T')
    {m n:Bool} (hx:a.eval x = .bool m) (hy:a.eval y = .bool n) {rd0:Nat} {c:Bool} {rd:Nat} {wr:List (Nat×S)}
    (h:preBinBool P o.dst.toList rd0 op T m n = .eff c rd wr):ORun P F M0 w0 o a w (app wr st):=by
  have hrun:∀ v,(binOp op T (.bool m) (.bool n)).run P w = .ok v w->(execOp a.eval o).run P w = .ok (.value v) w:=fun v e=>by
    simp [execOp,ho,hx,hy,eqG_bool,e]
  unfold preBinBool at h
  split at h
  . rename_i hu
    have he0:∀ d,(Op.equalIn (d+1) T (.bool m) (.bool n)).run P w = .ok (m==n) w:=fun d=>by
      simp [Op.equalIn,run_underlying hu]
    have he:(Op.equal T (.bool m) (.bool n)).run P w = .ok (m==n) w:=he0 9999
    split at h
    . exact orun_put hg hb hnb h rfl (hrun (.bool (m==n)) (by simp [binOp,he])) (mk_bool _)
    . exact orun_put hg hb hnb h rfl (hrun (.bool (m != n)) (by simp [binOp,he,bne])) (mk_bool _)
    . cases h
  . cases h
theorem op_bin {op:BinOp} {T T':TypeId} {x y:Operand} (hg:Good M0 F M st a w) (hb:Fr F w0 w) (hnb:NoBox st o) (ho:o.op = .binOp op T x y T')
    {c:Bool} {rd:Nat} {wr:List (Nat×S)} (hagg:∀ (p q:Ty) (u v:(Ty.prod p q).den),RepV M w (.prod p q) (a.eval x) u->RepV M w (.prod p q) (a.eval y) v ->
      preBinAgg P o.dst.toList (om x ||| om y) op T (.prod p q) u v = .eff c rd wr->ORun P F M0 w0 o a w (app wr st)) (h:vpre P Φ o st = .eff c rd wr) (hc:c=true):ORun P F M0 w0 o a w (app wr st):=by
  simp only [vpre,ho] at h
  have hx:=opnd_ok hg x
  have hy:=opnd_ok hg y
  unfold preBin at h
  split at h
  . rename_i k m k' n e1 e2
    rw [e1] at hx;rw [e2] at hy
    exact op_binInt hg hb hnb ho (slot_int hx) (slot_int hy) h hc
  . rename_i m n e1 e2
    rw [e1] at hx;rw [e2] at hy
    exact op_binStr hg hb hnb ho (slot_str hx) (slot_str hy) h hc
  . rename_i m n e1 e2
    rw [e1] at hx;rw [e2] at hy
    exact op_binBool hg hb hnb ho (slot_bool hx) (slot_bool hy) h
  . rename_i p q u p' q' v e1 e2
    rw [e1] at hx;rw [e2] at hy
    split at h
    rotate_left
    . cases h
    rename_i e
    cases e
    exact hagg p q u v hx hy h
  . cases h
end
end Go.V
namespace Go.V
open Go.RowKit (Below)
section
variable {P : Program} {Φ : Nat → List Spec} {F : Nat → Prop} {M0 : Base} {w0 : World} {M : Mut} {st : St} {a : Act} {w : World} {o : Oper}
def offOf:Ty->Nat->Nat
  | .prod _ _,0=>0
  | .prod a b,n+1=>a.size+offOf b n
  | _,_=>0
theorem projF_rep:∀ (t:Ty) (cs:List Value) (x:t.den) (f:Nat) (u:Ty) (y:u.den),RepC M w t cs x->projF t x f=some ⟨u,y⟩ ->
    RepC M w u ((cs.drop (offOf t f)).take u.size) y/\offOf t f+u.size<=t.size
  | .prod p q,cs,x,0,u,y,h,e=>by
    simp only [projF] at e
    cases e
    obtain ⟨c1,c2,rfl,h1,h2⟩:=h
    have hl:=RepC.length _ _ _ h1
    refine ⟨?_,by simp [offOf,Ty.size]⟩
    simp only [offOf,List.drop_zero]
    rw [<- hl,List.take_left]
    exact h1
  | .prod p q,cs,x,f+1,u,y,h,e=>by
    simp only [projF] at e
    obtain ⟨c1,c2,rfl,h1,h2⟩:=h
    have hl:=RepC.length _ _ _ h1
    obtain ⟨ih1,ih2⟩:=projF_rep q c2 x.2 f u y h2 e
    refine ⟨?_,by simp only [offOf,Ty.size];omega⟩
    simp only [offOf]
    rw [<- hl,<- List.drop_drop,List.drop_left]
    exact ih1
  | .unit,_,_,_,_,_,_,e=>by simp [projF] at e
  | .int _,_,_,_,_,_,_,e=>by simp [projF] at e
  | .bool,_,_,_,_,_,_,e=>by simp [projF] at e
  | .str,_,_,_,_,_,_,e=>by simp [projF] at e
  | .list _,_,_,_,_,_,_,e=>by simp [projF] at e
  | .raw,_,_,_,_,_,_,e=>by simp [projF] at e
  | .opq,_,_,_,_,_,_,e=>by simp [projF] at e
  | .dyn _ _,_,_,_,_,_,_,e=>by simp [projF] at e
  | .ptr _,_,_,_,_,_,_,e=>by simp [projF] at e
  | .clo _ _ _,_,_,_,_,_,_,e=>by simp [projF] at e
theorem tysOf_get {f:TypeId->Option Ty}:∀ (fs:List Field) (off:Nat) (t:Ty) (i:Nat) (fld:Field) (x:t.den) (u:Ty) (y:u.den),tysOf f off fs=some t->fs[i]? = some fld->projF t x i=some ⟨u,y⟩ ->
    f fld.type=some u/\fld.offset=off+offOf t i
  | [],_,_,_,_,_,_,_,_,h2,_=>by simp at h2
  | g :: gs,off,t,i,fld,x,u,y,h1,h2,h3=>by
    unfold tysOf at h1
    cases hx:f g.type with
    | none=>rw [hx] at h1;cases h1
    | some p =>
      rw [hx] at h1
      dsimp only at h1
      split at h1
      . rename_i hc
        cases hr:tysOf f (off+p.size) gs with
        | none=>rw [hr] at h1;cases h1
        | some r =>
          rw [hr] at h1
          cases h1
          cases i with
          | zero =>
            simp at h2;subst h2
            simp only [projF] at h3
            cases h3
            refine ⟨hx,?_⟩
            simp at hc
            simpa [offOf] using hc.1
          | succ i =>
            simp at h2
            simp only [projF] at h3
            obtain ⟨e1,e2⟩:=tysOf_get gs (off+p.size) r i fld x.2 u y hr h2 h3
            refine ⟨e1,?_⟩
            simp only [offOf];omega
      . cases h1
theorem ty_struct {n:Nat} {T:TypeId} {t:Ty} {fs:Array Field} (h:tyOf P n T=some t) (hu:P.underlying T=some (.struct fs)):∃ m,tysOf (tyOf P m) 0 fs.toList=some t:=by
  obtain ⟨m,hi,d,hd,ht⟩:=tyOf_info h
  rw [hu] at hd;cases hd
  exact ⟨m,ht⟩
theorem run_part {n:Nat} {T:TypeId} {u:Ty} (h:tyOf P n T=some u) (cs:Array Value) (off:Nat) (hl:((cs.toList.drop off).take u.size).length=u.size) (w:World) :
    (part T cs off).run P w = .ok (toVal u ((cs.toList.drop off).take u.size)) w:=by
  unfold part toVal
  rw [Sem.run_bind,run_isAgg h w]
  simp only [Result.andThen_ok]
  cases ha:u.agg with
  | true =>
    simp only [if_true,Sem.run_bind,run_sizeOf h,Result.andThen_ok,Sem.run_pure]
    congr 2
    apply Array.ext'
    rw [Array.toList_extract]
    simp [List.extract]
  | false =>
    have h1:=agg_false_size ha
    rw [h1] at hl ⊢
    have hlt:off<cs.size:=by
      simp at hl;omega
    have hd:cs.toList.drop off=cs[off] :: cs.toList.drop (off+1):=by
      rw [List.drop_eq_getElem_cons (by simpa using hlt)];simp
    rw [hd]
    simp [hlt]
theorem place_ok (hg:Good M0 F M st a w) {x:Operand} {hm off:Nat} (e:place x (opnd st x)=some (hm,off)) :
    ∃ b cs,get st hm = .box cs/\tm a hm = .pointer (some ⟨b,0,none⟩)/\a.eval x = .pointer (some ⟨b,off,none⟩):=by
  have hx:=opnd_ok hg x
  cases e':opnd st x with
  | box cs =>
    rw [e'] at hx e
    cases x with
    | tmp t =>
      simp only [place,Option.some.injEq,Prod.mk.injEq] at e
      obtain ⟨rfl,rfl⟩:=e
      obtain ⟨b,T',cells,e1,_⟩:=hx
      exact ⟨b,cs,e',e1,e1⟩
    | _=>simp [place] at e
  | fa h' off' =>
    rw [e'] at hx e
    have e2:h'=hm/\off'=off:=by cases x<;>simpa [place] using e
    obtain ⟨rfl,rfl⟩:=e2
    obtain ⟨b,cs',e1,e2,e3⟩:=hx
    exact ⟨b,cs',e1,e2,e3⟩
  | _=>rw [e'] at e;cases x<;>simp [place] at e
theorem op_fieldAddr (hg:Good M0 F M st a w) (hb:Fr F w0 w) (hnb:NoBox st o) {T:TypeId} {x:Operand} {f:Nat} (ho:o.op = .fieldAddr T x f)
    {c:Bool} {rd:Nat} {wr:List (Nat×S)} (h:vpre P Φ o st = .eff c rd wr):ORun P F M0 w0 o a w (app wr st):=by
  simp only [vpre,ho] at h
  have hx:=opnd_ok hg x
  split at h
  rotate_left
  . cases h
  rename_i fs hu
  split at h
  rotate_left
  . cases h
  rename_i fld hf
  split at h
  . cases h
  rename_i hz
  have hsz:∃ k,(sizeOf fld.type).run P w = .ok k w/\k≠0:=by
    unfold Program.cellsOf at hz
    cases hi:P.info? fld.type with
    | none=>rw [hi] at hz;simp at hz
    | some i=>rw [hi] at hz;exact ⟨i.size,by simp [sizeOf,typeInfo,hi],by simpa using hz⟩
  obtain ⟨k,hk,hk0⟩:=hsz
  have hrun:∀ b off,a.eval x = .pointer (some ⟨b,off,none⟩)->(execOp a.eval o).run P w = .ok (.value (.pointer (some ⟨b,off+fld.offset,none⟩))) w:=by
    intro b off e
    simp [execOp,ho,e,Instr.fieldAt,run_underlying hu,hf,Instr.sureAddr,fieldPlace,hk,hk0,add_lit]
  split at h
  . rename_i t y e
    split at h
    rotate_left
    . cases h
    rename_i ht
    split at h
    rotate_left
    . cases h
    rename_i u z hp
    rw [e] at hx
    obtain ⟨b,off,cs,e1,e2,e3,e4⟩:=hx
    obtain ⟨m,hts⟩:=ty_struct ht hu
    obtain ⟨f1,f2⟩:=tysOf_get fs.toList 0 t f fld y u z hts (by simpa using hf) hp
    obtain ⟨g1,g2⟩:=projF_rep t cs y f u z e4 hp
    have hlen:((cs.drop (offOf t f)).take u.size).length=u.size:=by simp;omega
    refine orun_put hg hb hnb h rfl (hrun b off e1) ⟨b,off+fld.offset,(cs.drop (offOf t f)).take u.size,rfl,hlen,?_,g1⟩
    intro j hj
    have hj':j<u.size:=by omega
    have hj2:offOf t f+j<cs.length:=by omega
    have:=e3 (offOf t f+j) hj2
    rw [f2,Nat.zero_add,Nat.add_assoc]
    refine ⟨?_,this.2⟩
    rw [this.1]
    simp
  . split at h
    rotate_left
    . cases h
    rename_i hm off e
    obtain ⟨b,cs,e1,e2,e3⟩:=place_ok hg e
    exact orun_put hg hb hnb h rfl (hrun b off e3) ⟨b,cs,e1,e2,rfl⟩
theorem getD_rep {α:Type} {R:List Value->α->Prop} {xs:List α} {n:Nat} {z:α} {ec:List Value} (h:n<xs.length) (hr:R ec xs[n]):R ec (xs.getD n z):=by
  have:xs.getD n z=xs[n]:=by simp [List.getD_eq_getElem?_getD,h]
  rw [this];exact hr
theorem op_indexAddr (hg:Good M0 F M st a w) (hb:Fr F w0 w) (hnb:NoBox st o) {T:TypeId} {x i:Operand} (ho:o.op = .indexAddr T x i)
    {c:Bool} {rd:Nat} {wr:List (Nat×S)} (h:vpre P Φ o st = .eff c rd wr) (hc:c=true):ORun P F M0 w0 o a w (app wr st):=by
  simp only [vpre,ho] at h
  have hx:=opnd_ok hg x
  have hi:=opnd_ok hg i
  split at h
  rotate_left
  . split at h<;>cases h
  . cases h
  rename_i E hu
  split at h
  rotate_left
  . cases h
  rename_i e ht
  split at h
  . rename_i hm kk t0 ex
    split at h
    rotate_left
    . cases h
    rename_i y n ey en
    split at h
    rotate_left
    . cases h
    rename_i hty
    obtain ⟨hy1,hy2⟩:=hty
    subst hy1
    subst hy2
    rw [ex] at hx
    obtain ⟨v,hv,h2,_,h4⟩:=arrOf_ok hg ey
    have hxv:=h2 _ hx
    obtain ⟨E',m,hu',hE,hpos⟩:=ty_list ht
    rw [hu] at hu';cases hu'
    have hn:∃ k,a.eval i = .int k n:=by
      unfold idxOf at en
      split at en
      . rename_i k m' e'
        cases en
        rw [e'] at hi
        exact ⟨k,slot_int hi⟩
      . cases en
    obtain ⟨k,hn⟩:=hn
    simp only [Pre.eff.injEq] at h
    obtain ⟨hc',_,rfl⟩:=h
    rw [hc] at hc'
    simp only [inb,Bool.and_eq_true,decide_eq_true_eq] at hc'
    obtain ⟨h0,h1⟩:=hc'
    rcases hv with ⟨e1,e2⟩|⟨g,cap,cells,T',e1,e2,e3,e4,e5,e6,e7⟩
    . rw [e2] at h1;simp at h1;omega
    . have hr:(execOp a.eval o).run P w = .ok (.value (.pointer (some ⟨g,n.toNat * y.1.size,none⟩))) w:=by
        simp [execOp,ho,hxv,e1,hn,Instr.indexAt,asIntOf,run_underlying hu,run_sizeOf hE,add_lit,h0,h1]
      exact .same hb hr (hg.fin hnb rfl (h4 g n.toNat (by rw [e1];rfl)))
  split at h
  rotate_left
  . cases h
  rename_i xs n e1 e2
  obtain ⟨E',m,hu',hE,hpos⟩:=ty_list ht
  rw [hu] at hu';cases hu'
  have hxs:=as_ok hx e1
  obtain ⟨p,cap,f1,f2,f3⟩:=repC_list hxs
  simp only [List.cons.injEq,and_true] at f1
  have hn:∃ k,a.eval i = .int k n:=by
    unfold idxOf at e2
    split at e2
    . rename_i k m' e'
      cases e2
      rw [e'] at hi
      exact ⟨k,slot_int hi⟩
    . cases e2
  obtain ⟨k,hn⟩:=hn
  simp only [Pre.eff.injEq] at h
  obtain ⟨hc',_,rfl⟩:=h
  rw [hc] at hc'
  simp only [inb,Bool.and_eq_true,decide_eq_true_eq] at hc'
  obtain ⟨h0,h1⟩:=hc'
  have hlt:n.toNat<List.length xs:=by omega
  obtain ⟨b,off,ec,g1,g2,g3,g4⟩:=f3 n.toNat hlt
  subst g1
  have hr:(execOp a.eval o).run P w = .ok (.value (.pointer (some ⟨b,off+n.toNat * e.size,none⟩))) w:=by
    simp [execOp,ho,f1,hn,Instr.indexAt,asIntOf,run_underlying hu,run_sizeOf hE,add_lit,h0,h1]
  refine .same hb hr (hg.fin hnb rfl ⟨b,_,ec,rfl,g2,g3,?_⟩)
  exact getD_rep (R:=fun ec x=>RepC M w e ec x) hlt g4
theorem op_field (hg:Good M0 F M st a w) (hb:Fr F w0 w) (hnb:NoBox st o) {T:TypeId} {x:Operand} {f:Nat} (ho:o.op = .field T x f)
    {c:Bool} {rd:Nat} {wr:List (Nat×S)} (h:vpre P Φ o st = .eff c rd wr):ORun P F M0 w0 o a w (app wr st):=by
  simp only [vpre,ho] at h
  have hx:=opnd_ok hg x
  split at h
  rotate_left
  . cases h
  rename_i fs hu
  split at h
  rotate_left
  . cases h
  rename_i t ht
  split at h
  rotate_left
  . cases h
  rename_i v hv
  split at h
  rotate_left
  . cases h
  rename_i u y hp
  obtain ⟨cs,e1,e2⟩:=as_ok hx hv
  obtain ⟨m,hts⟩:=ty_struct ht hu
  have hagg:=tysOf_agg _ _ _ hts
  obtain ⟨g1,g2⟩:=projF_rep t cs v f u y e2 hp
  have hlen:=RepC.length _ _ _ g1
  have hf:∃ fld,fs[f]? = some fld:=by
    cases hff:fs[f]? with
    | some fld=>exact ⟨fld,rfl⟩
    | none =>
      exfalso
      have:∀ (fs:List Field) (off:Nat) (t:Ty) (x:t.den) (i:Nat) (r:(u:Ty)×u.den),tysOf (tyOf P m) off fs=some t->projF t x i=some r->i<fs.length:=by
        intro fs
        induction fs with
        | nil=>intro off t x i r h1 h2;simp [tysOf] at h1;subst h1;simp [projF] at h2
        | cons g gs ih =>
          intro off t x i r h1 h2
          unfold tysOf at h1
          cases hx:tyOf P m g.type with
          | none=>rw [hx] at h1;cases h1
          | some p =>
            rw [hx] at h1
            dsimp only at h1
            split at h1
            . cases hr:tysOf (tyOf P m) (off+p.size) gs with
              | none=>rw [hr] at h1;cases h1
              | some q =>
                rw [hr] at h1;cases h1
                cases i with
                | zero=>simp
                | succ i=>simp only [projF] at h2;have:=ih _ _ _ _ _ hr h2;simp;omega
            . cases h1
      have hlt:=this fs.toList 0 t v f _ hts hp
      simp at hff hlt
      omega
  obtain ⟨fld,hf⟩:=hf
  obtain ⟨f1,f2⟩:=tysOf_get fs.toList 0 t f fld v u y hts (by simpa using hf) hp
  rw [Nat.zero_add] at f2
  have he:a.eval x = .agg cs.toArray:=by rw [e1,toVal,if_pos hagg]
  have hpart:=run_part f1 cs.toArray fld.offset (by rw [f2];exact hlen) w
  rw [f2] at hpart
  refine orun_put hg hb hnb h rfl (v:=toVal u ((cs.drop (offOf t f)).take u.size)) ?_ ⟨_,rfl,g1⟩
  simp [execOp,ho,he,Instr.field,run_underlying hu,hf,asAgg,f2,hpart]
theorem op_extract (hg:Good M0 F M st a w) (hb:Fr F w0 w) (hnb:NoBox st o) {x:Operand} {i:Nat} (ho:o.op = .extract x i)
    {c:Bool} {rd:Nat} {wr:List (Nat×S)} (h:vpre P Φ o st = .eff c rd wr) (hc:c=true):ORun P F M0 w0 o a w (app wr st):=by
  simp only [vpre,ho] at h
  have hx:=opnd_ok hg x
  split at h
  rotate_left
  . rename_i b p cc e
    rw [e] at hx
    have hx:a.eval x=nxtV b p cc:=hx
    split at h
    . refine orun_put hg hb hnb h rfl (v:=.bool b) ?_ (mk_bool b)
      cases b<;>simp [execOp,ho,hx,nxtV,Instr.extract]
    . have hbt:b=true:=by
        simp only [Pre.eff.injEq] at h;rw [h.1];exact hc
      refine orun_put hg hb hnb h rfl (v:=.int .i64 p) ?_ (mk_int _ p)
      subst hbt
      simp [execOp,ho,hx,nxtV,Instr.extract]
    . have hbt:b=true:=by
        simp only [Pre.eff.injEq] at h;rw [h.1];exact hc
      refine orun_put hg hb hnb h rfl (v:=.int .i32 cc) ?_ (mk_int _ cc)
      subst hbt
      simp [execOp,ho,hx,nxtV,Instr.extract]
    . cases h
  . cases h
  rename_i u y e
  split at h
  rotate_left
  . cases h
  rename_i t z hp
  rw [e] at hx
  obtain ⟨vs,e1,e2⟩:=hx
  have key:∀ (u:Ty) (vs:List Value) (y:u.den) (i:Nat) (t:Ty) (z:t.den),RepT M w u vs y->projF u y i=some ⟨t,z⟩->∃ v,vs[i]? = some v/\RepV M w t v z:=by
    intro u
    induction u with
    | prod p q _ ihq =>
      intro vs y i t z h1 h2
      obtain ⟨v,rest,rfl,g1,g2⟩:=h1
      cases i with
      | zero=>simp only [projF] at h2;cases h2;exact ⟨v,rfl,g1⟩
      | succ i=>simp only [projF] at h2;obtain ⟨v',k1,k2⟩:=ihq _ _ _ _ _ g2 h2;exact ⟨v',by simpa using k1,k2⟩
    | _=>intro vs y i t z h1 h2;simp [projF] at h2
  obtain ⟨v,k1,k2⟩:=key u vs y i t z e2 hp
  refine orun_put hg hb hnb h rfl (v:=v) ?_ k2
  simp [execOp,ho,e1,Instr.extract,k1]
theorem nilCheck_core (hg:Good M0 F M st a w) (hb:Fr F w0 w) (hnb:NoBox st o) {x:Operand} (ho:o.op = .nilCheck x)
    {v:Value} (hv:a.eval x=v) {c:Bool} {rd0 rd:Nat} {wr:List (Nat×S)}
    (h:(match v with
      | .func (.func f) fs cs=>put1 o.dst.toList true rd0 (.d .raw (Value.func (.func f) fs cs))
      | _=>.bad) = .eff c rd wr):ORun P F M0 w0 o a w (app wr st):=by
  split at h
  rotate_left
  . cases h
  rename_i g fs cs
  refine orun_put hg hb hnb h rfl (v:=.func (.func g) fs cs) ?_ (mk_raw rfl rfl)
  simp [execOp,ho,hv]
theorem op_nilCheck (hg:Good M0 F M st a w) (hb:Fr F w0 w) (hnb:NoBox st o) {x:Operand} (ho:o.op = .nilCheck x)
    {c:Bool} {rd:Nat} {wr:List (Nat×S)} (h:vpre P Φ o st = .eff c rd wr):ORun P F M0 w0 o a w (app wr st):=by
  simp only [vpre,ho] at h
  have hx:=opnd_ok hg x
  split at h
  rotate_left
  . cases h
  rename_i v e
  rw [e] at hx
  exact nilCheck_core hg hb hnb ho (repV_raw hx) h
theorem capS_ok (hg:Good M0 F M st a w):∀ (l:List Operand) (y:(t:Ty)×t.den),capS st l=some y->RepC M w y.1 (l.map a.eval) y.2
  | [],y,h=>by simp only [capS,Option.some.injEq] at h;subst h;rfl
  | x :: l,y,h=>by
    unfold capS at h
    have hx:=opnd_ok hg x
    split at h
    rotate_left
    . cases h
    rename_i t z e
    split at h
    rotate_left
    . cases h
    rename_i y' hy
    cases h
    rw [e] at hx
    obtain ⟨b,off,cs,e1,e2,e3,e4⟩:=hx
    exact ⟨[a.eval x],l.map a.eval,rfl,⟨b,off,cs,by rw [e1],e2,e3,e4⟩,capS_ok hg l y' hy⟩
theorem make_core (hg:Good M0 F M st a w) (hb:Fr F w0 w) (hnb:NoBox st o) {g:Nat} {firsts captured:Array Operand} (ho:o.op = .makeFunc (.func g) firsts captured)
    {fs cs:List Operand} (h1:firsts.toList=fs) (h2:captured.toList=cs) {c:Bool} {rd0 rd:Nat} {wr:List (Nat×S)} (h:preMake st o.dst.toList rd0 g fs cs = .eff c rd wr):ORun P F M0 w0 o a w (app wr st):=by
  have hf:firsts.map a.eval=(fs.map a.eval).toArray:=by apply Array.ext';rw [Array.toList_map,h1]
  have hc:captured.map a.eval=(cs.map a.eval).toArray:=by apply Array.ext';rw [Array.toList_map,h2]
  have hrun:(execOp a.eval o).run P w = .ok (.value (.func (.func g) (fs.map a.eval).toArray (cs.map a.eval).toArray)) w:=by
    simp [execOp,ho,hf,hc,Instr.makeFunc]
  unfold preMake at h
  split at h
  . cases h
  . split at h
    rotate_left
    . cases h
    rename_i cs' _ y hy
    exact orun_put hg hb hnb h rfl hrun ⟨[_],rfl,[],_,rfl,rfl,capS_ok hg _ y hy⟩
  . rename_i f
    split at h
    rotate_left
    . cases h
    rename_i y hy
    have hx:=opnd_ok hg f
    unfold dataS at hy
    split at hy
    rotate_left
    . cases hy
    rename_i t x e
    split at hy
    . cases hy
    rename_i hu
    cases hy
    rw [e] at hx
    obtain ⟨fc,e1,e2⟩:=hx
    refine orun_put hg hb hnb h rfl hrun ⟨[_],rfl,fc,[],?_,e2,rfl⟩
    simp [firstsOf,hu,e1]
  . cases h
theorem op_makeFunc (hg:Good M0 F M st a w) (hb:Fr F w0 w) (hnb:NoBox st o) {fn:Fn} {firsts captured:Array Operand} (ho:o.op = .makeFunc fn firsts captured)
    {c:Bool} {rd:Nat} {wr:List (Nat×S)} (h:vpre P Φ o st = .eff c rd wr):ORun P F M0 w0 o a w (app wr st):=by
  simp only [vpre,ho] at h
  split at h
  rotate_left
  . cases h
  rename_i g
  split at h
  rotate_left
  . exact make_core hg hb hnb ho rfl rfl h
  rename_i hcap
  split at h
  rotate_left
  . exact make_core hg hb hnb ho rfl hcap h
  rename_i vs hvs
  have key:∀ (l:List Operand) (vs:List Value),l.mapM (fun x=>rawOf (opnd st x))=some vs->l.map a.eval=vs:=by
    intro l
    induction l with
    | nil=>intro vs h;simp at h;subst h;rfl
    | cons x l ih =>
      intro vs h
      rw [List.mapM_cons] at h
      cases hx:rawOf (opnd st x) with
      | none=>rw [hx] at h;cases h
      | some u =>
        rw [hx] at h
        cases hl:l.mapM (fun x=>rawOf (opnd st x)) with
        | none=>rw [hl] at h;cases h
        | some us =>
          rw [hl] at h
          cases h
          rw [List.map_cons,ih us hl,rawOf_ok (opnd_ok hg x) hx]
  have hf:firsts.map a.eval=vs.toArray:=by
    apply Array.ext'
    rw [Array.toList_map]
    exact key _ _ hvs
  have hc:captured.map a.eval = #[]:=by
    apply Array.ext'
    rw [Array.toList_map,hcap]
    rfl
  refine orun_put hg hb hnb h rfl (v:=.func (.func g) vs.toArray #[]) ?_ ⟨[_],rfl,rfl,rfl,rfl⟩
  simp [execOp,ho,hf,hc,Instr.makeFunc]
end
end Go.V
namespace Go.V
open Go.RowKit (Below)
section
variable {P : Program} {Φ : Nat → List Spec} {F : Nat → Prop} {M0 : Base} {w0 : World} {M : Mut} {st : St} {a : Act} {w : World} {o : Oper}
def CellsOK (M:Mut) (w:World):List Value->List C->Prop
  | [],[]=>True
  | u :: us,c :: cs=>CellOK M w u c/\CellsOK M w us cs
  | _,_=>False
theorem cellsOK_iff:∀ (us:List Value) (cs:List C),CellsOK M w us cs<->us.length=cs.length/\∀ (k:Nat) (c:C) (u:Value),cs[k]? = some c->us[k]? = some u->CellOK M w u c
  | [],[]=>by simp [CellsOK]
  | [],_ :: _=>by simp [CellsOK]
  | _ :: _,[]=>by simp [CellsOK]
  | u :: us,c :: cs=>by
    simp only [CellsOK,cellsOK_iff us cs,List.length_cons,Nat.add_right_cancel_iff]
    constructor
    . rintro ⟨h1,h2,h3⟩
      refine ⟨h2,fun k c' u' hc hu=>?_⟩
      cases k with
      | zero=>simp at hc hu;subst hc;subst hu;exact h1
      | succ k=>simp at hc hu;exact h3 k c' u' hc hu
    . rintro ⟨h2,h3⟩
      exact ⟨h3 0 c u rfl rfl,h2,fun k c' u' hc hu=>h3 (k+1) c' u' (by simpa using hc) (by simpa using hu)⟩
theorem CellsOK.drop:∀ (n:Nat) (us:List Value) (cs:List C),CellsOK M w us cs->CellsOK M w (us.drop n) (cs.drop n)
  | 0,_,_,h=>h
  | n+1,[],[],h=>h
  | n+1,u :: us,c :: cs,h=>CellsOK.drop n us cs h.2
  | n+1,[],_ :: _,h=>h.elim
  | n+1,_ :: _,[],h=>h.elim
theorem gath_leaf {t:Ty} {us:List Value} {cs:List C} {x:t.den} {rest:List C} (hC:CellsOK M w us cs)
    (hg:(match cs with
      | .d u x :: cs=>if h:u=t then some (h ▸ x,cs) else none
      | _=>none)=some (x,rest)):∃ c1 us',us=c1++us'/\RepC M w t c1 x/\CellsOK M w us' rest:=by
  cases cs with
  | nil=>cases hg
  | cons c cs' =>
    cases c with
    | d u y =>
      dsimp only at hg
      split at hg
      . rename_i e
        subst e
        cases hg
        cases us with
        | nil=>exact hC.elim
        | cons v us=>exact ⟨[v],us,rfl,hC.1,hC.2⟩
      . cases hg
    | und=>cases hg
    | own u y z=>cases hg
    | arr u y z=>cases hg
theorem gath_ok:∀ (t:Ty) (us:List Value) (cs:List C) (x:t.den) (rest:List C),CellsOK M w us cs->gath t cs=some (x,rest) ->
    ∃ c1 us',us=c1++us'/\RepC M w t c1 x/\CellsOK M w us' rest
  | .unit,us,cs,x,rest,h,hg=>by
    simp only [gath] at hg
    cases hg
    exact ⟨[],us,rfl,rfl,h⟩
  | .prod p q,us,cs,x,rest,h,hg=>by
    simp only [gath] at hg
    cases h1:gath p cs with
    | none=>rw [h1] at hg;cases hg
    | some r1 =>
      obtain ⟨x1,cs1⟩:=r1
      rw [h1] at hg
      dsimp only at hg
      cases h2:gath q cs1 with
      | none=>rw [h2] at hg;cases hg
      | some r2 =>
        obtain ⟨x2,cs2⟩:=r2
        rw [h2] at hg
        cases hg
        obtain ⟨c1,us1,rfl,g1,g2⟩:=gath_ok p us cs x1 cs1 h h1
        obtain ⟨c2,us2,rfl,k1,k2⟩:=gath_ok q us1 cs1 x2 rest g2 h2
        exact ⟨c1++c2,us2,by simp,⟨c1,c2,rfl,g1,k1⟩,k2⟩
  | .list e,us,cs,x,rest,h,hg=>by
    cases cs with
    | nil=>simp [gath] at hg
    | cons c cs' =>
      cases c with
      | und=>simp [gath] at hg
      | arr u ys hh=>simp [gath] at hg
      | own u ys hh =>
        simp only [gath] at hg
        split at hg
        . rename_i e'
          subst e'
          cases hg
          match us,h with
          | v :: us,h=>exact ⟨[v],us,rfl,h.1.1,h.2⟩
        . cases hg
      | d u y=>exact gath_leaf h (by simpa only [gath] using hg)
  | .int k,us,cs,x,rest,h,hg=>by
    refine gath_leaf h ?_
    cases cs with
    | nil=>simp [gath] at hg
    | cons c cs'=>cases c<;>first|(simp [gath] at hg;done)|simpa only [gath] using hg
  | .bool,us,cs,x,rest,h,hg=>by
    refine gath_leaf h ?_
    cases cs with
    | nil=>simp [gath] at hg
    | cons c cs'=>cases c<;>first|(simp [gath] at hg;done)|simpa only [gath] using hg
  | .str,us,cs,x,rest,h,hg=>by
    refine gath_leaf h ?_
    cases cs with
    | nil=>simp [gath] at hg
    | cons c cs'=>cases c<;>first|(simp [gath] at hg;done)|simpa only [gath] using hg
  | .raw,us,cs,x,rest,h,hg=>by
    refine gath_leaf h ?_
    cases cs with
    | nil=>simp [gath] at hg
    | cons c cs'=>cases c<;>first|(simp [gath] at hg;done)|simpa only [gath] using hg
  | .opq,us,cs,x,rest,h,hg=>by
    cases cs with
    | nil=>simp [gath] at hg
    | cons c cs' =>
      cases c with
      | d u y =>
        simp only [gath] at hg
        split at hg
        . rename_i hu
          cases hg
          match us,h with
          | v :: us,h =>
            refine ⟨[v],us,rfl,?_,h.2⟩
            rcases hu with rfl|rfl
            . exact h.1
            . have h1:[v]=[y]/\y.cells = #[y]/\y.oneCell'=true:=h.1
              exact ⟨y,h1.1,h1.2.1,h1.2.2⟩
        . cases hg
      | _=>simp [gath] at hg
  | .dyn T e,us,cs,x,rest,h,hg=>by
    refine gath_leaf h ?_
    cases cs with
    | nil=>simp [gath] at hg
    | cons c cs'=>cases c<;>first|(simp [gath] at hg;done)|simpa only [gath] using hg
  | .ptr e,us,cs,x,rest,h,hg=>by
    refine gath_leaf h ?_
    cases cs with
    | nil=>simp [gath] at hg
    | cons c cs'=>cases c<;>first|(simp [gath] at hg;done)|simpa only [gath] using hg
  | .clo T e e2,us,cs,x,rest,h,hg=>by
    refine gath_leaf h ?_
    cases cs with
    | nil=>simp [gath] at hg
    | cons c cs'=>cases c<;>first|(simp [gath] at hg;done)|simpa only [gath] using hg
theorem load_cells {n:Nat} {T:TypeId} {t:Ty} (ht:tyOf P n T=some t) {b off:Nat} {cells:Array Value} {E:TypeId} {c1 us':List Value}
    (hh:w.heap[b]? = some (.cells cells E (0,0))) (hd:cells.toList.drop off=c1++us') (hl:c1.length=t.size):(loadVar T ⟨b,off,none⟩).run P w = .ok (toVal t c1) w:=by
  refine run_loadVar ht hl fun j hj=>?_
  rw [cell_of_row w b (off+j) cells E (0,0) hh]
  have:cells.toList[off+j]? = some c1[j]:=by
    rw [<- List.getElem?_drop,hd,List.getElem?_append_left hj,List.getElem?_eq_getElem hj]
  simpa using this
theorem load_gath (hg:Good M0 F M st a w) (hb:Fr F w0 w) (hnb:NoBox st o) {T:TypeId} {x:Operand} (ho:o.op = .load T x)
    {t:Ty} (ht:ty P T=some t) {hm off:Nat} (e:place x (opnd st x)=some (hm,off)) {cs:List C} (hc:get st hm = .box cs)
    {rd0:Nat} {c:Bool} {rd:Nat} {wr:List (Nat×S)}
    (h:(match gath t (cs.drop off) with
      | some (x,_)=>put1 o.dst.toList true rd0 (.d t x)
      | none=>cloLoad t (cs.drop off) (put1 o.dst.toList true rd0)) = .eff c rd wr):ORun P F M0 w0 o a w (app wr st):=by
  split at h
  rotate_left
  . unfold cloLoad at h
    split at h
    rotate_left
    . cases h
    split at h
    rotate_left
    . cases h
    rename_i g p q y rest hdrop
    obtain ⟨b,cs',e1,e2,e3⟩:=place_ok hg e
    rw [hc] at e1;cases e1
    have hs:=hg.slot hm
    rw [hc] at hs
    obtain ⟨b',E,cells,f1,f2,f3,f4,f5⟩:=hs
    rw [e2] at f1;cases f1
    have hall:CellsOK M w cells.toList cs:=(cellsOK_iff _ _).2 ⟨by simpa using f3,fun k c u h1 h2=>f5 k c u h1 (by simpa using h2)⟩
    have hd:=hall.drop off
    rw [hdrop] at hd
    obtain ⟨u,us',hu⟩:∃ u us',cells.toList.drop off=u :: us':=by
      cases hx:cells.toList.drop off with
      | nil=>rw [hx] at hd;exact hd.elim
      | cons u us'=>exact ⟨u,us',rfl⟩
    rw [hu] at hd
    have hrep:RepC M w (.clo g p q) [u] y:=hd.1
    refine orun_put hg hb hnb h rfl (v:=u) ?_ ⟨[u],rfl,hrep⟩
    have:=load_cells (P:=P) ht f2 (c1:=[u]) (us':=us') hu rfl
    simp only [toVal,Ty.agg] at this
    simp [execOp,ho,e3,Instr.loadAt,Instr.sureAddr,this]
  rename_i y rest hy
  obtain ⟨b,cs',e1,e2,e3⟩:=place_ok hg e
  rw [hc] at e1;cases e1
  have hs:=hg.slot hm
  rw [hc] at hs
  obtain ⟨b',E,cells,f1,f2,f3,f4,f5⟩:=hs
  rw [e2] at f1;cases f1
  have hall:CellsOK M w cells.toList cs:=(cellsOK_iff _ _).2 ⟨by simpa using f3,fun k c u h1 h2=>f5 k c u h1 (by simpa using h2)⟩
  obtain ⟨c1,us',k1,k2,_⟩:=gath_ok t _ _ y rest (hall.drop off) hy
  refine orun_put hg hb hnb h rfl (v:=toVal t c1) ?_ ⟨c1,rfl,k2⟩
  simp [execOp,ho,e3,Instr.loadAt,Instr.sureAddr,load_cells ht f2 k1 (RepC.length _ _ _ k2)]
theorem op_load (hg:Good M0 F M st a w) (hb:Fr F w0 w) (hnb:NoBox st o) {T:TypeId} {x:Operand} (ho:o.op = .load T x)
    {c:Bool} {rd:Nat} {wr:List (Nat×S)} (h:vpre P Φ o st = .eff c rd wr) (hc0:c=true):ORun P F M0 w0 o a w (app wr st):=by
  simp only [vpre,ho] at h
  have hx:=opnd_ok hg x
  split at h
  . rename_i t y e
    split at h
    rotate_left
    . split at h
      rotate_left
      . cases h
      split at h
      . rename_i u ht
        rw [e] at hx
        obtain ⟨b,off,cs,e1,e2,e3,e4⟩:=hx
        have e5:=e4.1
        subst e5
        refine orun_put hg hb hnb h rfl ?_ ⟨_,rfl,e4⟩
        simp [execOp,ho,e1,Instr.loadAt,Instr.sureAddr,run_loadVar (t:=.list u) ht rfl fun j hj=>(e3 j hj).1]
        rfl
      . rename_i ht
        rw [e] at hx
        obtain ⟨b,off,cs,e1,e2,e3,e4⟩:=hx
        have e5:=e4.1
        subst e5
        refine orun_put hg hb hnb h rfl ?_ ⟨_,rfl,e4⟩
        simp [execOp,ho,e1,Instr.loadAt,Instr.sureAddr,run_loadVar (t:=.opq) ht rfl fun j hj=>(e3 j hj).1]
        rfl
      . cases h
    rename_i ht
    rw [e] at hx
    obtain ⟨b,off,cs,e1,e2,e3,e4⟩:=hx
    refine orun_put hg hb hnb h rfl (v:=toVal t cs) ?_ ⟨cs,rfl,e4⟩
    simp [execOp,ho,e1,Instr.loadAt,Instr.sureAddr,run_loadVar ht e2 fun j hj=>(e3 j hj).1]
  . rename_i hm kk u i e
    split at h
    rotate_left
    . cases h
    rename_i ht
    split at h
    rotate_left
    . cases h
    rename_i y ey
    split at h
    rotate_left
    . cases h
    rename_i hyu
    subst hyu
    rw [e] at hx
    obtain ⟨v,hv,_,h3,_⟩:=arrOf_ok hg ey
    obtain ⟨g,hgv,hxv⟩:=h3 _ i hx
    simp only [Pre.eff.injEq] at h
    obtain ⟨hc',hrd,hwr⟩:=h
    rw [hc0] at hc'
    have hlt:i<y.2.length:=of_decide_eq_true hc'
    rcases hv with ⟨e1,e2⟩|⟨g',cap,cells,T',e1,e2,e3,e4,e5,e6,e7⟩
    . rw [e2] at hlt;simp at hlt
    . rw [e1] at hgv;simp [ownB] at hgv;subst hgv
      have hrep:=e7 i hlt
      have hlen:=RepC.length _ _ _ hrep
      have hsplit:cells.toList.drop (i * y.1.size)=(cells.toList.drop (i * y.1.size)).take y.1.size++(cells.toList.drop (i * y.1.size)).drop y.1.size:=(List.take_append_drop _ _).symm
      subst hwr
      have hrun:=load_cells (P:=P) ht e2 hsplit hlen
      refine .same (v:=toVal y.1 ((cells.toList.drop (i * y.1.size)).take y.1.size)) hb ?_ (hg.fin hnb rfl ⟨_,rfl,?_⟩)
      . simp [execOp,ho,hxv,Instr.loadAt,Instr.sureAddr,hrun]
      . have:List.getD y.2 i y.1.zero=y.2[i]:=by rw [List.getD_eq_getElem?_getD,List.getElem?_eq_getElem hlt];rfl
        rw [this]
        exact hrep
  . split at h
    rotate_left
    . cases h
    rename_i hm off e
    split at h
    rotate_left
    . cases h
    rename_i cs hc
    split at h
    rotate_left
    . cases h
    rename_i t ht
    split at h
    . rename_i e' u ys hh hcell
      split at h
      rotate_left
      . cases h
      rename_i heq
      subst heq
      obtain ⟨b,cs',e1,e2,e3⟩:=place_ok hg e
      rw [hc] at e1;cases e1
      have hs:=hg.slot hm
      rw [hc] at hs
      obtain ⟨b',E,cells,f1,f2,f3,f4,f5⟩:=hs
      rw [e2] at f1;cases f1
      have hlt:off<cells.size:=by have:=(List.getElem?_eq_some_iff.1 hcell).1;omega
      have hcv:cells[off]? = some cells[off]:=Array.getElem?_eq_getElem hlt
      have hok:=f5 off _ _ hcell hcv
      have hd:cells.toList.drop off=[cells[off]]++cells.toList.drop (off+1):=by
        rw [List.drop_eq_getElem_cons (by simpa using hlt)];simp
      refine orun_put hg hb hnb h rfl (v:=cells[off]) ?_ ⟨hok.1,fun cs2 u2 ys2 b2 g1 g2 g3=>?_⟩
      . have:=load_cells (P:=P) ht f2 hd rfl
        simp only [toVal,Ty.agg] at this
        simp [execOp,ho,e3,Instr.loadAt,Instr.sureAddr,this]
      . rw [e2] at g3;simp [ownB] at g3;subst g3
        rw [cell_of_row w _ off cells E (0,0) f2];exact hcv
    . rename_i e' u ys hh hcell
      split at h
      rotate_left
      . cases h
      rename_i heq
      subst heq
      obtain ⟨b,cs',e1,e2,e3⟩:=place_ok hg e
      rw [hc] at e1;cases e1
      have hs:=hg.slot hm
      rw [hc] at hs
      obtain ⟨b',E,cells,f1,f2,f3,f4,f5⟩:=hs
      rw [e2] at f1;cases f1
      have hlt:off<cells.size:=by have:=(List.getElem?_eq_some_iff.1 hcell).1;omega
      have hcv:cells[off]? = some cells[off]:=Array.getElem?_eq_getElem hlt
      have hd:cells.toList.drop off=[cells[off]]++cells.toList.drop (off+1):=by
        rw [List.drop_eq_getElem_cons (by simpa using hlt)];simp
      refine orun_put hg hb hnb h rfl (v:=cells[off]) ?_ (fun cs2 ys2 b2 g1 g2 g3=>?_)
      . have:=load_cells (P:=P) ht f2 hd rfl
        simp only [toVal,Ty.agg] at this
        simp [execOp,ho,e3,Instr.loadAt,Instr.sureAddr,this]
      . rw [e2] at g3;simp [ownB] at g3;subst g3
        rw [cell_of_row w _ off cells E (0,0) f2];exact hcv
    . exact load_gath hg hb hnb ho ht e hc h
theorem idx_int (hg:Good M0 F M st a w) {i:Operand} {n:Int} (e:idxOf (opnd st i)=some n):∃ k,a.eval i = .int k n:=by
  have hi:=opnd_ok hg i
  unfold idxOf at e
  split at e
  . rename_i k m e'
    cases e
    rw [e'] at hi
    exact ⟨k,slot_int hi⟩
  . cases e
theorem idxStr_core (hg:Good M0 F M st a w) (hb:Fr F w0 w) (hnb:NoBox st o) {T:TypeId} {x i:Operand} (ho:o.op = .index T x i) (hu:P.underlying T=some .string)
    {xs:List UInt8} (hx:a.eval x = .string ⟨⟨xs⟩⟩) {n:Int} {k:IntKind} (hi:a.eval i = .int k n) {rd0:Nat} {c:Bool} {rd:Nat} {wr:List (Nat×S)}
    (h:put1 o.dst.toList (inb n xs.length) rd0 (.d (.int .u8) (byteAt xs n)) = .eff c rd wr) (hc:c=true):ORun P F M0 w0 o a w (app wr st):=by
  have h1:inb n xs.length=true:=by simp only [put1,Pre.eff.injEq] at h;rw [h.1];exact hc
  simp only [inb,Bool.and_eq_true,decide_eq_true_eq] at h1
  have hlt:n.toNat<xs.length:=by omega
  refine orun_put hg hb hnb h rfl (v:=.int .u8 (byteAt xs n)) ?_ (mk_int _ _)
  have hget:(⟨⟨xs⟩⟩:ByteArray)[n.toNat]? = some xs[n.toNat]:=by
    have hs:n.toNat<(⟨⟨xs⟩⟩:ByteArray).size:=hlt
    rw [getElem?_pos (⟨⟨xs⟩⟩:ByteArray) n.toNat hs]
    rfl
  have hv:byteAt xs n=((xs[n.toNat]).toNat:Int):=by simp [byteAt,List.getD_eq_getElem?_getD,hlt]
  simp [execOp,ho,hx,hi,Instr.index,asIntOf,run_underlying hu,h1.1,hget,hv]
theorem bnd_int (hg:Good M0 F M st a w) {d n:Int} {lo:Option Operand} (e:bnd st d lo=some n):(lo=none/\n=d)\/∃ i k,lo=some i/\a.eval i = .int k n:=by
  cases lo with
  | none=>simp [bnd] at e;exact .inl ⟨rfl,e.symm⟩
  | some i=>obtain ⟨k,hk⟩:=idx_int hg e;exact .inr ⟨i,k,rfl,hk⟩
theorem run_sliceBounds (hg:Good M0 F M st a w) {isS:Bool} {len cap:Nat} (hcap:len<=cap) {lo hi:Option Operand} {l h:Int} (el:bnd st 0 lo=some l) (eh:bnd st len hi=some h)
    (hc:cutOk l h len=true):(Instr.sliceBounds isS len cap (lo.map a.eval) (hi.map a.eval) none).run P w = .ok (l.toNat,h.toNat,cap) w:=by
  simp only [cutOk,Bool.and_eq_true,decide_eq_true_eq] at hc
  obtain ⟨⟨h0,h1⟩,h2⟩:=hc
  have hb:∀ (i:Operand) (k:IntKind) (n:Int) (y:Nat) (cd:BoundsCode),a.eval i = .int k n->0<=n->n<=y->(Instr.sliceBound (a.eval i) y cd).run P w = .ok n.toNat w:=by
    intro i k n y cd e p q
    simp [Instr.sliceBound,e,asIntOf,p,q]
  rcases bnd_int hg eh with ⟨rfl,rfl⟩|⟨i,k,rfl,hk⟩
  . rcases bnd_int hg el with ⟨rfl,rfl⟩|⟨i,k,rfl,hk⟩
    . simp [Instr.sliceBounds]
    . have:=hb i k l len .sliceB hk h0 (by omega)
      simp [Instr.sliceBounds,this]
  . have h3:=hb i k h cap (if isS then .sliceAcap else .sliceAlen) hk (by omega) (by omega)
    rcases bnd_int hg el with ⟨rfl,rfl⟩|⟨i',k',rfl,hk'⟩
    . simp [Instr.sliceBounds,h3]
    . have:=hb i' k' l h.toNat .sliceB hk' h0 (by omega)
      simp [Instr.sliceBounds,h3,this]
theorem sliceStr_core (hg:Good M0 F M st a w) (hb:Fr F w0 w) (hnb:NoBox st o) {T:TypeId} {x:Operand} {lo hi:Option Operand} (ho:o.op = .slice T x lo hi none) (hu:P.underlying T=some .string)
    {xs:List UInt8} (hx:a.eval x = .string ⟨⟨xs⟩⟩) {rd0:Nat} {c:Bool} {rd:Nat} {wr:List (Nat×S)}
    (h:preSliceStr o.dst.toList rd0 xs st lo hi = .eff c rd wr) (hc:c=true):ORun P F M0 w0 o a w (app wr st):=by
  unfold preSliceStr at h
  split at h
  rotate_left
  . cases h
  rename_i l r el er
  have hok:cutOk l r (lenI xs)=true:=by simp only [put1,Pre.eff.injEq] at h;rw [h.1];exact hc
  have hs:(⟨⟨xs⟩⟩:ByteArray).size=xs.length:=rfl
  have hbd:=run_sliceBounds (P:=P) hg (isS:=false) (len:=xs.length) (cap:=xs.length) (Nat.le_refl _) el er hok
  refine orun_put hg hb hnb h rfl (v:=.string ⟨⟨cut xs l r⟩⟩) ?_ (mk_str (cut xs l r))
  have hcut:(⟨⟨xs⟩⟩:ByteArray).extract l.toNat r.toNat=⟨⟨cut xs l r⟩⟩:=by
    apply ByteArray.ext
    rw [ByteArray.data_extract]
    apply Array.ext'
    simp [cut,List.extract]
  simp [execOp,ho,Instr.sliceAt,run_underlying hu,Instr.slice,hx,hs,hbd,hcut]
theorem sliceList_core (hg:Good M0 F M st a w) (hb:Fr F w0 w) (hnb:NoBox st o) {T E:TypeId} {x:Operand} {lo hi:Option Operand} (ho:o.op = .slice T x lo hi none) (hu:P.underlying T=some (.slice E))
    {m:Nat} {e:Ty} (hE:tyOf P m E=some e) {xs:List e.den} (hx:RepV M w (.list e) (a.eval x) xs) {rd0:Nat} {c:Bool} {rd:Nat} {wr:List (Nat×S)}
    (h:preSliceList o.dst.toList rd0 e xs st lo hi = .eff c rd wr) (hc:c=true):ORun P F M0 w0 o a w (app wr st):=by
  unfold preSliceList at h
  split at h
  rotate_left
  . cases h
  rename_i l r el er
  have hok:cutOk l r (lenI xs)=true:=by simp only [put1,Pre.eff.injEq] at h;rw [h.1];exact hc
  obtain ⟨p,cap,f1,f2,f3⟩:=repC_list hx
  simp only [List.cons.injEq,and_true] at f1
  have hbd:=run_sliceBounds (P:=P) hg (isS:=true) (len:=xs.length) (cap:=cap) f2 el er hok
  have hok':=hok
  simp only [cutOk,lenI,Bool.and_eq_true,decide_eq_true_eq] at hok'
  obtain ⟨⟨h0,h1⟩,h2⟩:=hok'
  have h2:r<=(xs.length:Int):=of_decide_eq_true h2
  have hlen:(cut xs l r).length=r.toNat - l.toNat:=by simp [cut];omega
  refine orun_put hg hb hnb h rfl (v:=.slice (if cap=l.toNat then p else p.map (·.add (l.toNat * e.size))) (r.toNat - l.toNat) (cap - l.toNat)) ?_ (repV_list ?_)
  . simp [execOp,ho,Instr.sliceAt,run_underlying hu,Instr.slice,f1,hbd,run_sizeOf hE]
  . refine ⟨_,cap - l.toNat,by rw [hlen],by rw [hlen];omega,fun i hi'=>?_⟩
    have hi2:l.toNat+i<xs.length:=by omega
    obtain ⟨b,off,ec,g1,g2,g3,g4⟩:=f3 (l.toNat+i) hi2
    refine ⟨b,off+l.toNat * e.size,ec,?_,g2,?_,?_⟩
    . rw [if_neg (by omega),g1]
      simp [add_lit]
    . have:off+l.toNat * e.size+i * e.size=off+(l.toNat+i) * e.size:=by rw [Nat.add_mul];omega
      rw [this];exact g3
    . have:(cut xs l r)[i]=xs[l.toNat+i]:=by simp [cut]
      rw [this];exact g4
theorem listOfN_length (e:Ty):∀ (n:Nat) (x:(nprod e n).den),(listOfN e n x).length=n
  | 0,_=>rfl
  | n+1,x=>by
    show (listOfN e n x.2).length+1=n+1
    rw [listOfN_length e n]
theorem nprod_rep {M:Mut} {w:World} {e:Ty}:∀ (n:Nat) (cs:List Value) (y:(nprod e n).den),RepC M w (nprod e n) cs y->∀ (i:Nat) (hi:i<(listOfN e n y).length),∃ ec,ec.length=e.size/\(∀ j (hj:j<ec.length),cs[i * e.size+j]? = some ec[j])/\RepC M w e ec ((listOfN e n y)[i])
  | 0,_,_,_,i,hi=>by simp [listOfN] at hi
  | n+1,cs,y,h,i,hi=>by
    obtain ⟨c1,c2,rfl,h1,h2⟩:=h
    have hl1:=RepC.length _ _ _ h1
    cases i with
    | zero =>
      refine ⟨c1,hl1,fun j hj=>?_,h1⟩
      rw [Nat.zero_mul,Nat.zero_add,List.getElem?_append_left hj,List.getElem?_eq_getElem hj]
    | succ i =>
      have hi':i<(listOfN e n y.2).length:=by simpa [listOfN] using hi
      obtain ⟨ec,k1,k2,k3⟩:=nprod_rep n c2 y.2 h2 i hi'
      refine ⟨ec,k1,fun j hj=>?_,k3⟩
      rw [List.getElem?_append_right (by rw [hl1,Nat.succ_mul];omega),hl1]
      have:(i+1) * e.size+j - e.size=i * e.size+j:=by rw [Nat.succ_mul];omega
      rw [this]
      exact k2 j hj
theorem sliceArr_core (hg:Good M0 F M st a w) (hb:Fr F w0 w) (hnb:NoBox st o) {T E:TypeId} {len:Nat} {x:Operand} (ho:o.op = .slice T x none none none) (hu:P.underlying T=some (.array len E))
    {m:Nat} {e:Ty} (hE:tyOf P m E=some e) {y:(nprod e len).den} (hx:RepV M w (.ptr (nprod e len)) (a.eval x) y) {rd0:Nat} {c:Bool} {rd:Nat} {wr:List (Nat×S)}
    (h:put1 o.dst.toList true rd0 (.d (.list e) (listOfN e len y)) = .eff c rd wr) (hc:c=true):ORun P F M0 w0 o a w (app wr st):=by
  obtain ⟨cs',e1,b,off,ec,e2,e3,e4,e5⟩:=hx
  subst e2
  have hv:a.eval x = .pointer (some ⟨b,off,none⟩):=e1
  refine orun_put hg hb hnb h rfl (v:=.slice (some ⟨b,off,none⟩) len len) ?_ (repV_list ?_)
  . have hz:(if len=0 then (⟨b,off,none⟩:Addr) else (⟨b,off,none⟩:Addr).add (0 * e.size))=⟨b,off,none⟩:=by
      split
      . rfl
      . simp [Addr.add]
    simp [execOp,ho,Instr.sliceAt,run_underlying hu,hv,Instr.sureAddr,Instr.sliceBounds,run_sizeOf hE,Addr.add]
  . refine ⟨some ⟨b,off,none⟩,len,by rw [listOfN_length],by rw [listOfN_length];exact Nat.le_refl _,fun i hi=>?_⟩
    obtain ⟨ec',k1,k2,k3⟩:=nprod_rep len ec y e5 i hi
    refine ⟨b,off,ec',rfl,k1,fun j hj=>?_,k3⟩
    have h2:=k2 j hj
    obtain ⟨hlt,h3⟩:=List.getElem?_eq_some_iff.1 h2
    have:=e4 _ hlt
    rw [h3] at this
    rw [Nat.add_assoc]
    exact this
theorem op_slice (hg:Good M0 F M st a w) (hb:Fr F w0 w) (hnb:NoBox st o) {T:TypeId} {x:Operand} {lo hi mx:Option Operand} (ho:o.op = .slice T x lo hi mx)
    {c:Bool} {rd:Nat} {wr:List (Nat×S)} (h:vpre P Φ o st = .eff c rd wr) (hc:c=true):ORun P F M0 w0 o a w (app wr st):=by
  simp only [vpre,ho] at h
  have hx:=opnd_ok hg x
  unfold preSlice at h
  split at h
  . cases h
  . split at h
    . rename_i hu
      split at h
      . rename_i xs e
        rw [e] at hx
        exact sliceStr_core hg hb hnb ho hu (slot_str hx) h hc
      . cases h
    . rename_i E hu
      split at h
      rotate_left
      . cases h
      rename_i e ht
      split at h
      rotate_left
      . cases h
      rename_i xs hxs
      obtain ⟨E',m,hu',hE,_⟩:=ty_list ht
      rw [hu] at hu';cases hu'
      exact sliceList_core hg hb hnb ho hu hE (as_ok hx hxs) h hc
    . rename_i len E hu
      split at h
      rotate_left
      . cases h
      split at h
      rotate_left
      . cases h
      rename_i e ht
      split at h
      rotate_left
      . cases h
      rename_i y hy
      exact sliceArr_core hg hb hnb ho hu ht (as_ok hx hy) h hc
    . cases h
end
end Go.V
namespace Go.V
open Go.RowKit (Below)
section
variable {P : Program} {Φ : Nat → List Spec} {F : Nat → Prop} {M0 : Base} {w0 : World} {M : Mut} {st : St} {a : Act} {w : World} {o : Oper}
theorem slot_d (hg:Good M0 F M st a w) {x:Operand} {t:Ty} {y:t.den} (e:opnd st x = .d t y):RepV M w t (a.eval x) y:=by
  have:=opnd_ok hg x;rw [e] at this;exact this
theorem pick_core (hg:Good M0 F M st a w) (hb:Fr F w0 w) (hnb:NoBox st o) {c0 x y:Operand} (ho:o.op = .pick c0 x y)
    {v:Bool} (hc0:a.eval c0 = .bool v) {c:Bool} {rd0 rd:Nat} {wr:List (Nat×S)}
    (h:(match opnd st x,opnd st y with
       | .d t x,.d u y=>if h:u=t then put1 o.dst.toList true rd0 (.d t (bif v then x else h ▸ y)) else .bad
       | .d t x,_=>.eff v rd0 (o.dst.toList.map (·,S.d t x))
       | _,.d t x=>.eff (notB v) rd0 (o.dst.toList.map (·,S.d t x))
       | _,_=>.bad) = .eff c rd wr) (hc:c=true):ORun P F M0 w0 o a w (app wr st):=by
  have hr:(execOp a.eval o).run P w = .ok (.value (if v then a.eval x else a.eval y)) w:=by
    simp [execOp,ho,hc0,asBool]
  split at h
  . rename_i t x' u y' e1 e2
    split at h
    rotate_left
    . cases h
    rename_i e
    subst e
    refine orun_put hg hb hnb h rfl hr ?_
    cases v with
    | true=>exact slot_d hg e1
    | false=>exact slot_d hg e2
  . rename_i t x' _ _
    have e1:opnd st x = .d t x':=by assumption
    have hv:v=true:=by simp only [Pre.eff.injEq] at h;rw [h.1];exact hc
    subst hv
    exact orun_put (c:=true) (rd:=rd0) hg hb hnb h rfl hr (slot_d hg e1)
  . rename_i t x' _ _
    have e1:opnd st y = .d t x':=by assumption
    have hv:v=false:=by simp only [Pre.eff.injEq] at h;have:=h.1;rw [hc] at this;simpa [notB] using this
    subst hv
    exact orun_put (c:=true) (rd:=rd0) hg hb hnb h rfl hr (slot_d hg e1)
  . cases h
theorem op_pick (hg:Good M0 F M st a w) (hb:Fr F w0 w) (hnb:NoBox st o) {c0 x y:Operand} (ho:o.op = .pick c0 x y)
    {c:Bool} {rd:Nat} {wr:List (Nat×S)} (h:vpre P Φ o st = .eff c rd wr) (hc:c=true):ORun P F M0 w0 o a w (app wr st):=by
  simp only [vpre,ho] at h
  split at h
  . rename_i v e
    exact pick_core hg hb hnb ho (repV_bool (slot_d hg e)) h hc
  . cases h
theorem conv_int (hg:Good M0 F M st a w) (hb:Fr F w0 w) (hnb:NoBox st o) {s t:TypeId} {x:Operand} (ho:o.op = .convert s t x)
    {j k k':IntKind} (hs:P.underlying s=some (.int j)) (ht:P.underlying t=some (.int k)) {n:Int} (hx:a.eval x = .int k' n) {c:Bool} {rd0 rd:Nat} {wr:List (Nat×S)}
    (h:put1 o.dst.toList true rd0 (.d (.int k) (wrapI k n)) = .eff c rd wr):ORun P F M0 w0 o a w (app wr st):=by
  refine orun_put hg hb hnb h rfl (v:=.int k (k.wrap n)) ?_ (mk_int _ _)
  simp [execOp,ho,hx,convert,run_underlying hs,run_underlying ht,Conv.intToInt]
theorem conv_str (hg:Good M0 F M st a w) (hb:Fr F w0 w) (hnb:NoBox st o) {s t:TypeId} {x:Operand} (ho:o.op = .convert s t x)
    (hs:P.underlying s=some .string) (ht:P.underlying t=some .string) {b:List UInt8} (hx:a.eval x = .string ⟨⟨b⟩⟩) {c:Bool} {rd0 rd:Nat} {wr:List (Nat×S)}
    (h:put1 o.dst.toList true rd0 (.d .str b) = .eff c rd wr):ORun P F M0 w0 o a w (app wr st):=by
  refine orun_put hg hb hnb h rfl (v:=.string ⟨⟨b⟩⟩) ?_ (mk_str b)
  simp [execOp,ho,hx,convert,run_underlying hs,run_underlying ht]
theorem foldl_bytes (xs:List Int):∀ (acc:ByteArray),xs.foldl (fun s n=>s.push (UInt8.ofNat n.toNat)) acc=⟨⟨acc.data.toList++toBytes xs⟩⟩:=by
  induction xs with
  | nil=>intro acc;simp [toBytes]
  | cons n xs ih =>
    intro acc
    rw [List.foldl_cons,ih]
    simp [toBytes,ByteArray.push]
theorem op_makeInterface (hg:Good M0 F M st a w) (hb:Fr F w0 w) (hnb:NoBox st o) {T:TypeId} {x:Operand} (ho:o.op = .makeInterface T x)
    {c:Bool} {rd:Nat} {wr:List (Nat×S)} (h:vpre P Φ o st = .eff c rd wr):ORun P F M0 w0 o a w (app wr st):=by
  simp only [vpre,ho] at h
  have hx:=opnd_ok hg x
  split at h
  . cases h
  . rename_i hni
    split at h
    rotate_left
    . cases h
    rename_i t ht
    split at h
    rotate_left
    . cases h
    rename_i v hv
    obtain ⟨cs,e1,e2⟩:=as_ok hx hv
    obtain ⟨m,_,d,hd,_⟩:=tyOf_info ht
    refine orun_put hg hb hnb h rfl (v:=.iface T (a.eval x)) ?_ ⟨[.iface T (a.eval x)],rfl,cs,by rw [e1],e2⟩
    have hdi:∀ ms,d ≠ .interface ms:=fun ms e=>hni ms (by rw [hd,e])
    have:(Instr.makeInterface T (a.eval x)).run P w = .ok (.iface T (a.eval x)) w:=by
      unfold Instr.makeInterface
      rw [Sem.run_bind,run_underlying hd w]
      cases d<;>first|rfl|exact (hdi _ rfl).elim
    simp [execOp,ho,this]
theorem run_len {T:TypeId} {v:Value} {n:Nat} (h:(P.underlying T=some .string/\∃ s:ByteArray,v = .string s/\s.size=n)\/(∃ E,P.underlying T=some (.slice E))/\∃ p c,v = .slice p n c)
    (T':TypeId) (Ts:List TypeId) (w:World):(Builtin.len_ (T :: Ts).toArray T' #[v]).run P w = .ok (.int .i64 n) w:=by
  rcases h with ⟨h1,s,rfl,rfl⟩|⟨⟨E,h1⟩,p,c,rfl⟩
  . simp [Builtin.len_,run_underlying h1,goInt]
  . simp [Builtin.len_,run_underlying h1,goInt]
theorem op_len (hg:Good M0 F M st a w) (hb:Fr F w0 w) (hnb:NoBox st o) {T:TypeId} {Ts:List TypeId} {x:Operand} {cl:Call} (ho:o.op = .call cl)
    (h1:cl.callee = .builtin .len) (h2:cl.argTypes=(T :: Ts).toArray) (h3:cl.args = #[x]) {rd0:Nat}
    {c:Bool} {rd:Nat} {wr:List (Nat×S)} (h:preLen P o.dst.toList st rd0 T (opnd st x) = .eff c rd wr):ORun P F M0 w0 o a w (app wr st):=by
  have hx:=opnd_ok hg x
  have hrun:∀ n:Nat,(Builtin.len_ (T :: Ts).toArray o.type #[a.eval x]).run P w = .ok (.int .i64 n) w->(execOp a.eval o).run P w = .ok (.value (.int .i64 n)) w:=fun n e=>by
    obtain ⟨callee,args,argTypes⟩:=cl
    simp only at h1 h2 h3
    subst h1;subst h2;subst h3
    simp [execOp,ho,resolve,invoke,builtin,e]
  unfold preLen at h
  split at h
  . rename_i hu
    split at h
    . rename_i xs e
      rw [e] at hx
      exact orun_put hg hb hnb h rfl (hrun _ (run_len (.inl ⟨hu,_,slot_str hx,rfl⟩) _ _ w)) (mk_int _ _)
    . cases h
  . rename_i E hu
    have key:∀ {e:Ty} {xs:List e.den},RepC M w (.list e) [a.eval x] xs->(execOp a.eval o).run P w = .ok (.value (.int .i64 (lenI xs))) w:=fun {e xs} hr=>by
      obtain ⟨p,cap,f1,f2,_⟩:=hr
      simp only [List.cons.injEq,and_true] at f1
      exact hrun _ (run_len (.inr ⟨⟨E,hu⟩,p,cap,f1⟩) _ _ w)
    split at h
    . rename_i e xs e'
      rw [e'] at hx
      exact orun_put hg hb hnb h rfl (key (repC_list hx)) (mk_int _ _)
    . rename_i e xs hh e'
      rw [e'] at hx
      exact orun_put hg hb hnb h rfl (key hx.1) (mk_int _ _)
    . rename_i hm k e xs e'
      rw [e'] at hx
      have:RepC M w (.list e) [a.eval x] xs:=by cases k<;>exact hx.1
      exact orun_put hg hb hnb h rfl (key this) (mk_int _ _)
    . rename_i e'
      rw [e'] at hx
      have hx:a.eval x = .slice none 0 0:=hx
      exact orun_put hg hb hnb h rfl (hrun 0 (run_len (.inr ⟨⟨E,hu⟩,none,0,hx⟩) _ _ w)) (mk_int _ _)
    . rename_i hm k t e'
      split at h
      rotate_left
      . cases h
      rename_i y ey
      split at h
      rotate_left
      . cases h
      rename_i hyt
      subst hyt
      rw [e'] at hx
      obtain ⟨v,hv,h4,_⟩:=arrOf_ok hg ey
      have hxv:=h4 _ hx
      have hl:∃ p cp,a.eval x = .slice p y.2.length cp:=by
        rcases hv with ⟨e1,e2⟩|⟨g,cap,cells,T',e1,_⟩
        . exact ⟨none,0,by rw [hxv,e1,e2];rfl⟩
        . exact ⟨_,cap,by rw [hxv,e1]⟩
      obtain ⟨p,cp,hl⟩:=hl
      exact orun_put hg hb hnb h rfl (hrun _ (run_len (.inr ⟨⟨E,hu⟩,p,cp,hl⟩) _ _ w)) (mk_int _ _)
    . cases h
  . cases h
theorem op_minmax (hg:Good M0 F M st a w) (hb:Fr F w0 w) (hnb:NoBox st o) {mx:Bool} {x y:Operand} {cl:Call} (ho:o.op = .call cl)
    (h1:cl.callee = .builtin (if mx then .max else .min)) (h3:cl.args = #[x,y]) {k k':IntKind} {m n:Int} (hx:a.eval x = .int k m) (hy:a.eval y = .int k' n) {rd0:Nat}
    {c:Bool} {rd:Nat} {wr:List (Nat×S)} (h:preMinMax mx o.dst.toList rd0 k m k' n = .eff c rd wr):ORun P F M0 w0 o a w (app wr st):=by
  unfold preMinMax at h
  split at h
  rotate_left
  . cases h
  rename_i hk
  subst hk
  obtain ⟨callee,args,argTypes⟩:=cl
  simp only at h1 h3
  subst h1;subst h3
  cases mx with
  | true =>
    refine orun_put hg hb hnb h rfl (v:=.int k (if n > m then n else m)) ?_ (mk_int _ _)
    simp [execOp,ho,resolve,invoke,builtin,hx,hy,Builtin.max_,Builtin.max2]
  | false =>
    refine orun_put hg hb hnb h rfl (v:=.int k (if n<m then n else m)) ?_ (mk_int _ _)
    simp [execOp,ho,resolve,invoke,builtin,hx,hy,Builtin.min_,Builtin.min2]
end
end Go.V
