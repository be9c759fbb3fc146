/- Part. -/
import Derived.Test.YtmkbnifehdhbbabGreatDoorVA
import Derived.Laws.Strings
import Derived.Laws.Concat
set_option linter.all false
noncomputable section
namespace Go.V
open Go.RowKit (Below)
section
variable {P : Program} {Φ : Nat → List Spec} {F : Nat → Prop} {M0 : Base} {w0 : World} {M : ai} {st : St} {a : Act} {w : World} {o : Oper}
def aU (P:Program) (F:Nat->Prop) (M0:Base) (w0:World) (o:Oper) (a:Act) (w:World) (st':St):Prop :=
 ∃ v w',((execOp a.eval o).run P w = .ok (.value v) w'\/((execOp a.eval o).run P w = .ok .skip w'/\v=undef)) /\
  Fr F w0 w'/\∃ M',Good M0 F M' st' (a.put o.dst v) w'
theorem aU.same {v:Value} {st':St} (hb:Fr F w0 w) (hr:(execOp a.eval o).run P w = .ok (.value v) w)
 (hg:Good M0 F M st' (a.put o.dst v) w):aU P F M0 w0 o a w st':=⟨v,w,.inl hr,hb,M,hg⟩
abbrev aN (st:St) (o:Oper):Prop:=∀ d,o.dst=some d->au (get st d)=false
theorem aX (hg:Good M0 F M st a w) (hb:Fr F w0 w) (hnb:aN st o) {s:S} {v:Value} {c:Bool} {rd:Nat} {c':Bool} {rd':Nat} {wr:List (Nat×S)}
 (h:aM o.dst.toList c rd s = .eff c' rd' wr) (hp:plain s=true) (hr:(execOp a.eval o).run P w = .ok (.value v) w) (hs:aI M w st a v s):aU P F M0 w0 o a w (app wr st):=by
 simp only [aM,Pre.eff.injEq] at h;obtain ⟨_,_,rfl⟩:=h;exact .same hb hr (hg.fin hnb hp hs)
theorem Ur (v:Value):plain (lB v)=true:=by
 cases v with
 | slice p n c=>cases p<;>cases n<;>cases c<;>rfl
 | agg cs=>simp only [lB];cases ka cs.toList<;>rfl
 | _=>rfl
theorem TQ (hg:Good M0 F M st a w) (hb:Fr F w0 w) (hnb:aN st o) {x:Operand} (ho:o.op = .move x) {c:Bool} {rd:Nat} {wr:List (Nat×S)}
 (h:az P Φ o st = .eff c rd wr):aU P F M0 w0 o a w (app wr st):=by
 simp only [az,ho] at h;have hr:(execOp a.eval o).run P w = .ok (.value (a.eval x)) w:=by simp [execOp,ho]
 have hx:=bx hg x;refine aX hg hb hnb (s:=oZ x (ak st x)) h ?_ hr ?_
 . cases x with
   | tmp t=>simp only [oZ];cases ak st (.tmp t)<;>rfl
   | const v=>simp only [oZ];exact Ur v
   | global g=>rfl
   | func f=>rfl
 . cases x with
   | tmp t =>
    simp only [oZ];cases e:ak st (.tmp t) with
    | own u xs hh=>rw [e] at hx;exact ⟨hx.1,fun _ _ _=>rfl⟩
    | arr u xs hh=>exact fun _ _=>rfl
    | sit xs pos=>trivial
    | box cs =>
     rw [e] at hx;obtain ⟨b,T,cells,e1,_⟩:=hx;exact ⟨b,cs,e,e1,e1⟩
    | _=>rw [e] at hx;exact hx
   | const v=>exact hx
   | global g=>exact hx
   | func f=>exact hx
theorem T_ (hg:Good M0 F M st a w) (hb:Fr F w0 w) (hnb:aN st o) {op:UnOp} {T:TypeId} {x:Operand} (ho:o.op = .unOp op T x) {c:Bool} {rd:Nat} {wr:List (Nat×S)}
 (h:az P Φ o st = .eff c rd wr):aU P F M0 w0 o a w (app wr st):=by
 simp only [az,ho] at h;have hx:=bx hg x;unfold qU at h;split at h
 . rename_i b e;rw [e] at hx;refine aX hg hb hnb h rfl (v:=.bool (!b)) ?_ (fX _);simp [execOp,ho,Op.unary,jy hx]
 . rename_i k n e;rw [e] at hx;refine aX hg hb hnb h rfl (v:=.int k (zR k n)) ?_ (dq _ _);simp [execOp,ho,Op.unary,fL hx,Op.intArith,zR]
 . cases h
theorem yr {op:BinOp} {T:TypeId} {x y:Operand} {k k':IntKind} {m n:Int}:eqGuard op T x y (.int k m) (.int k' n)=pure ():=by cases op<;>rfl
theorem OZ {op:BinOp} {T:TypeId} {x y:Operand} {m n:ByteArray}:eqGuard op T x y (.string m) (.string n)=pure ():=by cases op<;>rfl
theorem OY {op:BinOp} {T:TypeId} {x y:Operand} {m n:Bool}:eqGuard op T x y (.bool m) (.bool n)=pure ():=by cases op<;>rfl
theorem Tw {op:BinOp} {T T':TypeId} {x y:Operand} (hg:Good M0 F M st a w) (hb:Fr F w0 w) (hnb:aN st o) (ho:o.op = .binOp op T x y T')
 {k k':IntKind} {m n:Int} (hx:a.eval x = .int k m) (hy:a.eval y = .int k' n) {rd0:Nat} {c:Bool} {rd:Nat} {wr:List (Nat×S)}
 (h:nC o.dst.toList rd0 op k m k' n = .eff c rd wr) (hc:c=true):aU P F M0 w0 o a w (app wr st):=by
 have hc1:∀ {cc:Bool} {s:S},aM o.dst.toList cc rd0 s = .eff c rd wr->cc=true:=fun e=>by
  simp only [aM,Pre.eff.injEq] at e;rw [e.1];exact hc
 have hrun:∀ v,(binOp op T (.int k m) (.int k' n)).run P w = .ok v w->(execOp a.eval o).run P w = .ok (.value v) w:=fun v e=>by
  simp [execOp,ho,hx,hy,yr,e]
 unfold nC at h;split at h
 . have h0:¬ n<0:=by have:=hc1 h;simpa using this
   exact aX hg hb hnb h rfl (hrun _ (by simp [binOp,Op.shift,h0])) (dq _ _)
 . have h0:¬ n<0:=by have:=hc1 h;simpa using this
   exact aX hg hb hnb h rfl (hrun _ (by simp [binOp,Op.shift,h0])) (dq _ _)
 . rename_i hs1 hs2;split at h
   . rename_i hk;subst hk;split at h
     . exact aX hg hb hnb h rfl (hrun _ (by simp [binOp,Op.intArith])) (dq _ _)
     . exact aX hg hb hnb h rfl (hrun _ (by simp [binOp,Op.intArith])) (dq _ _)
     . exact aX hg hb hnb h rfl (hrun _ (by simp [binOp,Op.intArith])) (dq _ _)
     . have h0:¬ n=0:=by have:=hc1 h;simpa using this
       exact aX hg hb hnb h rfl (hrun _ (by simp [binOp,Op.intDiv,h0])) (dq _ _)
     . have h0:¬ n=0:=by have:=hc1 h;simpa using this
       exact aX hg hb hnb h rfl (hrun _ (by simp [binOp,Op.intDiv,h0])) (dq _ _)
     . split at h
       . rename_i c0 e;cases op<;>simp only [Ek] at e<;>first|(cases e;done)|skip
         all_goals
          cases e;exact aX hg hb hnb h rfl (hrun _ (by simp [binOp,Op.intCmp])) (fX _)
       . cases h
   . cases h
theorem Tx {op:BinOp} {T T':TypeId} {x y:Operand} (hg:Good M0 F M st a w) (hb:Fr F w0 w) (hnb:aN st o) (ho:o.op = .binOp op T x y T')
 {m n:List UInt8} (hx:a.eval x = .string ⟨⟨m⟩⟩) (hy:a.eval y = .string ⟨⟨n⟩⟩) {rd0:Nat} {c:Bool} {rd:Nat} {wr:List (Nat×S)}
 (h:nE o.dst.toList rd0 op m n = .eff c rd wr) (hc:c=true):aU P F M0 w0 o a w (app wr st):=by
 have hrun:∀ v,(binOp op T (.string ⟨⟨m⟩⟩) (.string ⟨⟨n⟩⟩)).run P w = .ok v w->(execOp a.eval o).run P w = .ok (.value v) w:=fun v e=>by
  simp [execOp,ho,hx,hy,OZ,e]
 unfold nE at h;split at h
 . have h0:m.length+n.length<1000000:=by
    simp only [aM,Pre.eff.injEq] at h;have:=h.1;rw [hc] at this;simpa using this
   refine aX hg hb hnb h rfl (hrun (.string ⟨⟨m++n⟩⟩) ?_) (qH (m++n));have h1:¬ (((⟨⟨m⟩⟩:ByteArray).size+(⟨⟨n⟩⟩:ByteArray).size:Nat):Int) > IntKind.i64.max:=by
    have:IntKind.i64.max=9223372036854775807:=rfl;rw [this];have e1:(⟨⟨m⟩⟩:ByteArray).size=m.length:=rfl;have e2:(⟨⟨n⟩⟩:ByteArray).size=n.length:=rfl;rw [e1,e2];omega
   have h2:(⟨⟨m⟩⟩++⟨⟨n⟩⟩:ByteArray)=⟨⟨m++n⟩⟩:=by
    apply ByteArray.ext;simp
   simp only [binOp,Op.stringOp,if_neg h1,h2];rfl
 . exact aX hg hb hnb h rfl (hrun (.bool (m==n)) (by simp [binOp,Op.stringOp])) (fX _)
 . exact aX hg hb hnb h rfl (hrun (.bool (m != n)) (by simp [binOp,Op.stringOp,bne])) (fX _)
 . cases h
theorem Tv {op:BinOp} {T T':TypeId} {x y:Operand} (hg:Good M0 F M st a w) (hb:Fr F w0 w) (hnb:aN st o) (ho:o.op = .binOp op T x y T')
 {m n:Bool} (hx:a.eval x = .bool m) (hy:a.eval y = .bool n) {rd0:Nat} {c:Bool} {rd:Nat} {wr:List (Nat×S)}
 (h:nB P o.dst.toList rd0 op T m n = .eff c rd wr):aU P F M0 w0 o a w (app wr st):=by
 have hrun:∀ v,(binOp op T (.bool m) (.bool n)).run P w = .ok v w->(execOp a.eval o).run P w = .ok (.value v) w:=fun v e=>by
  simp [execOp,ho,hx,hy,OY,e]
 unfold nB at h;split at h
 . rename_i hu;have he0:∀ d,(Op.equalIn (d+1) T (.bool m) (.bool n)).run P w = .ok (m==n) w:=fun d=>by
    simp [Op.equalIn,run_underlying hu]
   have he:(Op.equal T (.bool m) (.bool n)).run P w = .ok (m==n) w:=he0 9999;split at h
   . exact aX hg hb hnb h rfl (hrun (.bool (m==n)) (by simp [binOp,he])) (fX _)
   . exact aX hg hb hnb h rfl (hrun (.bool (m != n)) (by simp [binOp,he,bne])) (fX _)
   . cases h
 . cases h
theorem Tt {op:BinOp} {T T':TypeId} {x y:Operand} (hg:Good M0 F M st a w) (hb:Fr F w0 w) (hnb:aN st o) (ho:o.op = .binOp op T x y T')
 {c:Bool} {rd:Nat} {wr:List (Nat×S)} (hagg:∀ (p q:Ty) (u v:(Ty.prod p q).den),aw M w (.prod p q) (a.eval x) u->aw M w (.prod p q) (a.eval y) v ->
  lI P o.dst.toList (om x ||| om y) op T (.prod p q) u v = .eff c rd wr->aU P F M0 w0 o a w (app wr st)) (h:az P Φ o st = .eff c rd wr) (hc:c=true):aU P F M0 w0 o a w (app wr st):=by
 simp only [az,ho] at h;have hx:=bx hg x;have hy:=bx hg y;unfold qP at h;split at h
 . rename_i k m k' n e1 e2;rw [e1] at hx;rw [e2] at hy;exact Tw hg hb hnb ho (fL hx) (fL hy) h hc
 . rename_i m n e1 e2;rw [e1] at hx;rw [e2] at hy;exact Tx hg hb hnb ho (rh hx) (rh hy) h hc
 . rename_i m n e1 e2;rw [e1] at hx;rw [e2] at hy;exact Tv hg hb hnb ho (jy hx) (jy hy) h
 . rename_i p q u p' q' v e1 e2;rw [e1] at hx;rw [e2] at hy;split at h;rotate_left
   . cases h
   rename_i e;cases e;exact hagg p q u v hx hy h
 . cases h
end
open Go.RowKit (Below)
section
variable {P : Program} {Φ : Nat → List Spec} {F : Nat → Prop} {M0 : Base} {w0 : World} {M : ai} {st : St} {a : Act} {w : World} {o : Oper}
def bM:Ty->Nat->Nat
 | .prod _ _,0=>0
 | .prod a b,n+1=>a.size+bM b n
 | _,_=>0
theorem uw:∀ (t:Ty) (cs:List Value) (x:t.den) (f:Nat) (u:Ty) (y:u.den),af M w t cs x->cA t x f=some ⟨u,y⟩ ->
 af M w u ((cs.drop (bM t f)).take u.size) y/\bM t f+u.size<=t.size
 | .prod p q,cs,x,0,u,y,h,e=>by
  simp only [cA] at e;cases e;obtain ⟨c1,c2,rfl,h1,h2⟩:=h;have hl:=af.length _ _ _ h1;refine ⟨?_,by simp [bM,Ty.size]⟩;simp only [bM,List.drop_zero];rw [<- hl,List.take_left];exact h1
 | .prod p q,cs,x,f+1,u,y,h,e=>by
  simp only [cA] at e;obtain ⟨c1,c2,rfl,h1,h2⟩:=h;have hl:=af.length _ _ _ h1;obtain ⟨ih1,ih2⟩:=uw q c2 x.2 f u y h2 e;refine ⟨?_,by simp only [bM,Ty.size];omega⟩;simp only [bM];rw [<- hl,<- List.drop_drop,List.drop_left];exact ih1
 | .unit,_,_,_,_,_,_,e=>by simp [cA] at e
 | .int _,_,_,_,_,_,_,e=>by simp [cA] at e
 | .bool,_,_,_,_,_,_,e=>by simp [cA] at e
 | .str,_,_,_,_,_,_,e=>by simp [cA] at e
 | .list _,_,_,_,_,_,_,e=>by simp [cA] at e
 | .raw,_,_,_,_,_,_,e=>by simp [cA] at e
 | .opq,_,_,_,_,_,_,e=>by simp [cA] at e
 | .dyn _ _,_,_,_,_,_,_,e=>by simp [cA] at e
 | .ptr _,_,_,_,_,_,_,e=>by simp [cA] at e
 | .clo _ _ _,_,_,_,_,_,_,e=>by simp [cA] at e
theorem Ck {f:TypeId->Option Ty}:∀ (fs:List Field) (off:Nat) (t:Ty) (i:Nat) (fld:Field) (x:t.den) (u:Ty) (y:u.den),dt f off fs=some t->fs[i]? = some fld->cA t x i=some ⟨u,y⟩ ->
 f fld.type=some u/\fld.offset=off+bM t i
 | [],_,_,_,_,_,_,_,_,h2,_=>by simp at h2
 | g :: gs,off,t,i,fld,x,u,y,h1,h2,h3=>by
  unfold dt at h1;cases hx:f g.type with
  | none=>rw [hx] at h1;cases h1
  | some p =>
   rw [hx] at h1;dsimp only at h1;split at h1
   . rename_i hc;cases hr:dt f (off+p.size) gs with
     | none=>rw [hr] at h1;cases h1
     | some r =>
      rw [hr] at h1;cases h1;cases i with
      | zero =>
       simp at h2;subst h2;simp only [cA] at h3;cases h3;refine ⟨hx,?_⟩;simp at hc
       simpa [bM] using hc.1
      | succ i =>
       simp at h2;simp only [cA] at h3;obtain ⟨e1,e2⟩:=Ck gs (off+p.size) r i fld x.2 u y hr h2 h3;refine ⟨e1,?_⟩;simp only [bM];omega
   . cases h1
theorem Cj {n:Nat} {T:TypeId} {t:Ty} {fs:Array Field} (h:bj P n T=some t) (hu:P.underlying T=some (.struct fs)):∃ m,dt (bj P m) 0 fs.toList=some t:=by
 obtain ⟨m,hi,d,hd,ht⟩:=jD h;rw [hu] at hd;cases hd;exact ⟨m,ht⟩
theorem uB {n:Nat} {T:TypeId} {u:Ty} (h:bj P n T=some u) (cs:Array Value) (off:Nat) (hl:((cs.toList.drop off).take u.size).length=u.size) (w:World) :
 (part T cs off).run P w = .ok (aP u ((cs.toList.drop off).take u.size)) w:=by
 unfold part aP;rw [Sem.run_bind,H6 h w];simp only [Result.andThen_ok];cases ha:u.agg with
 | true =>
  simp only [if_true,Sem.run_bind,fq h,Result.andThen_ok,Sem.run_pure]
  congr 2
  apply Array.ext';rw [Array.toList_extract];simp [List.extract]
 | false =>
  have h1:=sw ha;rw [h1] at hl ⊢;have hlt:off<cs.size:=by
   simp at hl;omega
  have hd:cs.toList.drop off=cs[off] :: cs.toList.drop (off+1):=by
   rw [List.drop_eq_getElem_cons (by simpa using hlt)];simp
  rw [hd];simp [hlt]
theorem nA (hg:Good M0 F M st a w) {x:Operand} {hm off:Nat} (e:place x (ak st x)=some (hm,off)) :
 ∃ b cs,get st hm = .box cs/\tm a hm = .pointer (some ⟨b,0,none⟩)/\a.eval x = .pointer (some ⟨b,off,none⟩):=by
 have hx:=bx hg x;cases e':ak st x with
 | box cs =>
  rw [e'] at hx e;cases x with
  | tmp t =>
   simp only [place,Option.some.injEq,Prod.mk.injEq] at e;obtain ⟨rfl,rfl⟩:=e;obtain ⟨b,T',cells,e1,_⟩:=hx;exact ⟨b,cs,e',e1,e1⟩
  | _=>simp [place] at e
 | fa h' off' =>
  rw [e'] at hx e;have e2:h'=hm/\off'=off:=by cases x<;>simpa [place] using e
  obtain ⟨rfl,rfl⟩:=e2;obtain ⟨b,cs',e1,e2,e3⟩:=hx;exact ⟨b,cs',e1,e2,e3⟩
 | _=>rw [e'] at e;cases x<;>simp [place] at e
theorem TH (hg:Good M0 F M st a w) (hb:Fr F w0 w) (hnb:aN st o) {T:TypeId} {x:Operand} {f:Nat} (ho:o.op = .fieldAddr T x f)
 {c:Bool} {rd:Nat} {wr:List (Nat×S)} (h:az P Φ o st = .eff c rd wr):aU P F M0 w0 o a w (app wr st):=by
 simp only [az,ho] at h;have hx:=bx hg x;split at h;rotate_left
 . cases h
 rename_i fs hu;split at h;rotate_left
 . cases h
 rename_i fld hf;split at h
 . cases h
 rename_i hz;have hsz:∃ k,(sizeOf fld.type).run P w = .ok k w/\k≠0:=by
  unfold Program.cellsOf at hz;cases hi:P.info? fld.type with
  | none=>rw [hi] at hz;simp at hz
  | some i=>rw [hi] at hz;exact ⟨i.size,by simp [sizeOf,typeInfo,hi],by simpa using hz⟩
 obtain ⟨k,hk,hk0⟩:=hsz;have hrun:∀ b off,a.eval x = .pointer (some ⟨b,off,none⟩)->(execOp a.eval o).run P w = .ok (.value (.pointer (some ⟨b,off+fld.offset,none⟩))) w:=by
  intro b off e;simp [execOp,ho,e,Instr.fieldAt,run_underlying hu,hf,Instr.sureAddr,fieldPlace,hk,hk0,gh]
 split at h
 . rename_i t y e;split at h;rotate_left
   . cases h
   rename_i ht;split at h;rotate_left
   . cases h
   rename_i u z hp;rw [e] at hx;obtain ⟨b,off,cs,e1,e2,e3,e4⟩:=hx;obtain ⟨m,hts⟩:=Cj ht hu;obtain ⟨f1,f2⟩:=Ck fs.toList 0 t f fld y u z hts (by simpa using hf) hp;obtain ⟨g1,g2⟩:=uw t cs y f u z e4 hp;have hlen:((cs.drop (bM t f)).take u.size).length=u.size:=by simp;omega
   refine aX hg hb hnb h rfl (hrun b off e1) ⟨b,off+fld.offset,(cs.drop (bM t f)).take u.size,rfl,hlen,?_,g1⟩;intro j hj;have hj':j<u.size:=by omega
   have hj2:bM t f+j<cs.length:=by omega
   have:=e3 (bM t f+j) hj2;rw [f2,Nat.zero_add,Nat.add_assoc];refine ⟨?_,this.2⟩;rw [this.1];simp
 . split at h;rotate_left
   . cases h
   rename_i hm off e;obtain ⟨b,cs,e1,e2,e3⟩:=nA hg e;exact aX hg hb hnb h rfl (hrun b off e3) ⟨b,cs,e1,e2,rfl⟩
theorem Rn {α:Type} {R:List Value->α->Prop} {xs:List α} {n:Nat} {z:α} {ec:List Value} (h:n<xs.length) (hr:R ec xs[n]):R ec (xs.getD n z):=by
 have:xs.getD n z=xs[n]:=by simp [List.getD_eq_getElem?_getD,h]
 rw [this];exact hr
theorem TJ (hg:Good M0 F M st a w) (hb:Fr F w0 w) (hnb:aN st o) {T:TypeId} {x i:Operand} (ho:o.op = .indexAddr T x i)
 {c:Bool} {rd:Nat} {wr:List (Nat×S)} (h:az P Φ o st = .eff c rd wr) (hc:c=true):aU P F M0 w0 o a w (app wr st):=by
 simp only [az,ho] at h;have hx:=bx hg x;have hi:=bx hg i;split at h;rotate_left
 . split at h<;>cases h
 . cases h
 rename_i E hu;split at h;rotate_left
 . cases h
 rename_i e ht;split at h
 . rename_i hm kk t0 ex;split at h;rotate_left
   . cases h
   rename_i y n ey en;split at h;rotate_left
   . cases h
   rename_i hty;obtain ⟨hy1,hy2⟩:=hty;subst hy1;subst hy2;rw [ex] at hx;obtain ⟨v,hv,h2,_,h4⟩:=xM hg ey;have hxv:=h2 _ hx;obtain ⟨E',m,hu',hE,hpos⟩:=mh ht;rw [hu] at hu';cases hu';have hn:∃ k,a.eval i = .int k n:=by
    unfold iy at en;split at en
    . rename_i k m' e';cases en;rw [e'] at hi;exact ⟨k,fL hi⟩
    . cases en
   obtain ⟨k,hn⟩:=hn;simp only [Pre.eff.injEq] at h;obtain ⟨hc',_,rfl⟩:=h;rw [hc] at hc';simp only [ax,Bool.and_eq_true,decide_eq_true_eq] at hc';obtain ⟨h0,h1⟩:=hc';rcases hv with ⟨e1,e2⟩|⟨g,cap,cells,T',e1,e2,e3,e4,e5,e6,e7⟩
   . rw [e2] at h1;simp at h1;omega
   . have hr:(execOp a.eval o).run P w = .ok (.value (.pointer (some ⟨g,n.toNat * y.1.size,none⟩))) w:=by
      simp [execOp,ho,hxv,e1,hn,Instr.indexAt,asIntOf,run_underlying hu,fq hE,gh,h0,h1]
     exact .same hb hr (hg.fin hnb rfl (h4 g n.toNat (by rw [e1];rfl)))
 split at h;rotate_left
 . cases h
 rename_i xs n e1 e2;obtain ⟨E',m,hu',hE,hpos⟩:=mh ht;rw [hu] at hu';cases hu';have hxs:=cO hx e1;obtain ⟨p,cap,f1,f2,f3⟩:=ra hxs;simp only [List.cons.injEq,and_true] at f1;have hn:∃ k,a.eval i = .int k n:=by
  unfold iy at e2;split at e2
  . rename_i k m' e';cases e2;rw [e'] at hi;exact ⟨k,fL hi⟩
  . cases e2
 obtain ⟨k,hn⟩:=hn;simp only [Pre.eff.injEq] at h;obtain ⟨hc',_,rfl⟩:=h;rw [hc] at hc';simp only [ax,Bool.and_eq_true,decide_eq_true_eq] at hc';obtain ⟨h0,h1⟩:=hc';have hlt:n.toNat<List.length xs:=by omega
 obtain ⟨b,off,ec,g1,g2,g3,g4⟩:=f3 n.toNat hlt;subst g1;have hr:(execOp a.eval o).run P w = .ok (.value (.pointer (some ⟨b,off+n.toNat * e.size,none⟩))) w:=by
  simp [execOp,ho,f1,hn,Instr.indexAt,asIntOf,run_underlying hu,fq hE,gh,h0,h1]
 refine .same hb hr (hg.fin hnb rfl ⟨b,_,ec,rfl,g2,g3,?_⟩);exact Rn (R:=fun ec x=>af M w e ec x) hlt g4
theorem TG (hg:Good M0 F M st a w) (hb:Fr F w0 w) (hnb:aN st o) {T:TypeId} {x:Operand} {f:Nat} (ho:o.op = .field T x f)
 {c:Bool} {rd:Nat} {wr:List (Nat×S)} (h:az P Φ o st = .eff c rd wr):aU P F M0 w0 o a w (app wr st):=by
 simp only [az,ho] at h;have hx:=bx hg x;split at h;rotate_left
 . cases h
 rename_i fs hu;split at h;rotate_left
 . cases h
 rename_i t ht;split at h;rotate_left
 . cases h
 rename_i v hv;split at h;rotate_left
 . cases h
 rename_i u y hp;obtain ⟨cs,e1,e2⟩:=cO hx hv;obtain ⟨m,hts⟩:=Cj ht hu;have hagg:=oz _ _ _ hts;obtain ⟨g1,g2⟩:=uw t cs v f u y e2 hp;have hlen:=af.length _ _ _ g1;have hf:∃ fld,fs[f]? = some fld:=by
  cases hff:fs[f]? with
  | some fld=>exact ⟨fld,rfl⟩
  | none =>
   exfalso;have:∀ (fs:List Field) (off:Nat) (t:Ty) (x:t.den) (i:Nat) (r:(u:Ty)×u.den),dt (bj P m) off fs=some t->cA t x i=some r->i<fs.length:=by
    intro fs
    induction fs with
    | nil=>intro off t x i r h1 h2;simp [dt] at h1;subst h1;simp [cA] at h2
    | cons g gs ih =>
     intro off t x i r h1 h2;unfold dt at h1;cases hx:bj P m g.type with
     | none=>rw [hx] at h1;cases h1
     | some p =>
      rw [hx] at h1;dsimp only at h1;split at h1
      . cases hr:dt (bj P m) (off+p.size) gs with
        | none=>rw [hr] at h1;cases h1
        | some q =>
         rw [hr] at h1;cases h1;cases i with
         | zero=>simp
         | succ i=>simp only [cA] at h2;have:=ih _ _ _ _ _ hr h2;simp;omega
      . cases h1
   have hlt:=this fs.toList 0 t v f _ hts hp;simp at hff hlt;omega
 obtain ⟨fld,hf⟩:=hf;obtain ⟨f1,f2⟩:=Ck fs.toList 0 t f fld v u y hts (by simpa using hf) hp;rw [Nat.zero_add] at f2;have he:a.eval x = .agg cs.toArray:=by rw [e1,aP,if_pos hagg]
 have hpart:=uB f1 cs.toArray fld.offset (by rw [f2];exact hlen) w;rw [f2] at hpart;refine aX hg hb hnb h rfl (v:=aP u ((cs.drop (bM t f)).take u.size)) ?_ ⟨_,rfl,g1⟩;simp [execOp,ho,he,Instr.field,run_underlying hu,hf,asAgg,f2,hpart]
theorem TF (hg:Good M0 F M st a w) (hb:Fr F w0 w) (hnb:aN st o) {x:Operand} {i:Nat} (ho:o.op = .extract x i)
 {c:Bool} {rd:Nat} {wr:List (Nat×S)} (h:az P Φ o st = .eff c rd wr) (hc:c=true):aU P F M0 w0 o a w (app wr st):=by
 simp only [az,ho] at h;have hx:=bx hg x;split at h;rotate_left
 . rename_i b p cc e;rw [e] at hx;have hx:a.eval x=lA b p cc:=hx;split at h
   . refine aX hg hb hnb h rfl (v:=.bool b) ?_ (fX b);cases b<;>simp [execOp,ho,hx,lA,Instr.extract]
   . have hbt:b=true:=by
      simp only [Pre.eff.injEq] at h;rw [h.1];exact hc
     refine aX hg hb hnb h rfl (v:=.int .i64 p) ?_ (dq _ p);subst hbt;simp [execOp,ho,hx,lA,Instr.extract]
   . have hbt:b=true:=by
      simp only [Pre.eff.injEq] at h;rw [h.1];exact hc
     refine aX hg hb hnb h rfl (v:=.int .i32 cc) ?_ (dq _ cc);subst hbt;simp [execOp,ho,hx,lA,Instr.extract]
   . cases h
 . cases h
 rename_i u y e;split at h;rotate_left
 . cases h
 rename_i t z hp;rw [e] at hx;obtain ⟨vs,e1,e2⟩:=hx;have key:∀ (u:Ty) (vs:List Value) (y:u.den) (i:Nat) (t:Ty) (z:t.den),bN M w u vs y->cA u y i=some ⟨t,z⟩->∃ v,vs[i]? = some v/\aw M w t v z:=by
  intro u
  induction u with
  | prod p q _ ihq =>
   intro vs y i t z h1 h2;obtain ⟨v,rest,rfl,g1,g2⟩:=h1;cases i with
   | zero=>simp only [cA] at h2;cases h2;exact ⟨v,rfl,g1⟩
   | succ i=>simp only [cA] at h2;obtain ⟨v',k1,k2⟩:=ihq _ _ _ _ _ g2 h2;exact ⟨v',by simpa using k1,k2⟩
  | _=>intro vs y i t z h1 h2;simp [cA] at h2
 obtain ⟨v,k1,k2⟩:=key u vs y i t z e2 hp;refine aX hg hb hnb h rfl (v:=v) ?_ k2;simp [execOp,ho,e1,Instr.extract,k1]
theorem Ti (hg:Good M0 F M st a w) (hb:Fr F w0 w) (hnb:aN st o) {x:Operand} (ho:o.op = .nilCheck x)
 {v:Value} (hv:a.eval x=v) {c:Bool} {rd0 rd:Nat} {wr:List (Nat×S)}
 (h:(match v with
  | .func (.func f) fs cs=>aM o.dst.toList true rd0 (.d .raw (Value.func (.func f) fs cs))
  | _=>.bad) = .eff c rd wr):aU P F M0 w0 o a w (app wr st):=by
 split at h;rotate_left
 . cases h
 rename_i g fs cs;refine aX hg hb hnb h rfl (v:=.func (.func g) fs cs) ?_ (qG rfl rfl);simp [execOp,ho,hv]
theorem TT (hg:Good M0 F M st a w) (hb:Fr F w0 w) (hnb:aN st o) {x:Operand} (ho:o.op = .nilCheck x)
 {c:Bool} {rd:Nat} {wr:List (Nat×S)} (h:az P Φ o st = .eff c rd wr):aU P F M0 w0 o a w (app wr st):=by
 simp only [az,ho] at h;have hx:=bx hg x;split at h;rotate_left
 . cases h
 rename_i v e;rw [e] at hx;exact Ti hg hb hnb ho (fp hx) h
theorem Ee (hg:Good M0 F M st a w):∀ (l:List Operand) (y:(t:Ty)×t.den),jL st l=some y->af M w y.1 (l.map a.eval) y.2
 | [],y,h=>by simp only [jL,Option.some.injEq] at h;subst h;rfl
 | x :: l,y,h=>by
  unfold jL at h;have hx:=bx hg x;split at h;rotate_left
  . cases h
  rename_i t z e;split at h;rotate_left
  . cases h
  rename_i y' hy;cases h;rw [e] at hx;obtain ⟨b,off,cs,e1,e2,e3,e4⟩:=hx;exact ⟨[a.eval x],l.map a.eval,rfl,⟨b,off,cs,by rw [e1],e2,e3,e4⟩,Ee hg l y' hy⟩
theorem GK (hg:Good M0 F M st a w) (hb:Fr F w0 w) (hnb:aN st o) {g:Nat} {firsts captured:Array Operand} (ho:o.op = .makeFunc (.func g) firsts captured)
 {fs cs:List Operand} (h1:firsts.toList=fs) (h2:captured.toList=cs) {c:Bool} {rd0 rd:Nat} {wr:List (Nat×S)} (h:iM st o.dst.toList rd0 g fs cs = .eff c rd wr):aU P F M0 w0 o a w (app wr st):=by
 have hf:firsts.map a.eval=(fs.map a.eval).toArray:=by apply Array.ext';rw [Array.toList_map,h1]
 have hc:captured.map a.eval=(cs.map a.eval).toArray:=by apply Array.ext';rw [Array.toList_map,h2]
 have hrun:(execOp a.eval o).run P w = .ok (.value (.func (.func g) (fs.map a.eval).toArray (cs.map a.eval).toArray)) w:=by
  simp [execOp,ho,hf,hc,Instr.makeFunc]
 unfold iM at h;split at h
 . cases h
 . split at h;rotate_left
   . cases h
   rename_i cs' _ y hy;exact aX hg hb hnb h rfl hrun ⟨[_],rfl,[],_,rfl,rfl,Ee hg _ y hy⟩
 . rename_i f;split at h;rotate_left
   . cases h
   rename_i y hy;have hx:=bx hg f;unfold Eu at hy;split at hy;rotate_left
   . cases hy
   rename_i t x e;split at hy
   . cases hy
   rename_i hu;cases hy;rw [e] at hx;obtain ⟨fc,e1,e2⟩:=hx;refine aX hg hb hnb h rfl hrun ⟨[_],rfl,fc,[],?_,e2,rfl⟩;simp [kW,hu,e1]
 . cases h
theorem TM (hg:Good M0 F M st a w) (hb:Fr F w0 w) (hnb:aN st o) {fn:Fn} {firsts captured:Array Operand} (ho:o.op = .makeFunc fn firsts captured)
 {c:Bool} {rd:Nat} {wr:List (Nat×S)} (h:az P Φ o st = .eff c rd wr):aU P F M0 w0 o a w (app wr st):=by
 simp only [az,ho] at h;split at h;rotate_left
 . cases h
 rename_i g;split at h;rotate_left
 . exact GK hg hb hnb ho rfl rfl h
 rename_i hcap;split at h;rotate_left
 . exact GK hg hb hnb ho rfl hcap h
 rename_i vs hvs;have key:∀ (l:List Operand) (vs:List Value),l.mapM (fun x=>jw (ak st x))=some vs->l.map a.eval=vs:=by
  intro l
  induction l with
  | nil=>intro vs h;simp at h;subst h;rfl
  | cons x l ih =>
   intro vs h;rw [List.mapM_cons] at h;cases hx:jw (ak st x) with
   | none=>rw [hx] at h;cases h
   | some u =>
    rw [hx] at h;cases hl:l.mapM (fun x=>jw (ak st x)) with
    | none=>rw [hl] at h;cases h
    | some us =>
     rw [hl] at h;cases h;rw [List.map_cons,ih us hl,UN (bx hg x) hx]
 have hf:firsts.map a.eval=vs.toArray:=by
  apply Array.ext';rw [Array.toList_map];exact key _ _ hvs
 have hc:captured.map a.eval = #[]:=by
  apply Array.ext';rw [Array.toList_map,hcap];rfl
 refine aX hg hb hnb h rfl (v:=.func (.func g) vs.toArray #[]) ?_ ⟨[_],rfl,rfl,rfl,rfl⟩;simp [execOp,ho,hf,hc,Instr.makeFunc]
end
open Go.RowKit (Below)
section
variable {P : Program} {Φ : Nat → List Spec} {F : Nat → Prop} {M0 : Base} {w0 : World} {M : ai} {st : St} {a : Act} {w : World} {o : Oper}
def cE (M:ai) (w:World):List Value->List C->Prop
 | [],[]=>True
 | u :: us,c :: cs=>fC M w u c/\cE M w us cs
 | _,_=>False
theorem ie:∀ (us:List Value) (cs:List C),cE M w us cs<->us.length=cs.length/\∀ (k:Nat) (c:C) (u:Value),cs[k]? = some c->us[k]? = some u->fC M w u c
 | [],[]=>by simp [cE]
 | [],_ :: _=>by simp [cE]
 | _ :: _,[]=>by simp [cE]
 | u :: us,c :: cs=>by
  simp only [cE,ie us cs,List.length_cons,Nat.add_right_cancel_iff];constructor
  . rintro ⟨h1,h2,h3⟩;refine ⟨h2,fun k c' u' hc hu=>?_⟩;cases k with
    | zero=>simp at hc hu;subst hc;subst hu;exact h1
    | succ k=>simp at hc hu;exact h3 k c' u' hc hu
  . rintro ⟨h2,h3⟩;exact ⟨h3 0 c u rfl rfl,h2,fun k c' u' hc hu=>h3 (k+1) c' u' (by simpa using hc) (by simpa using hu)⟩
theorem cE.drop:∀ (n:Nat) (us:List Value) (cs:List C),cE M w us cs->cE M w (us.drop n) (cs.drop n)
 | 0,_,_,h=>h
 | n+1,[],[],h=>h
 | n+1,u :: us,c :: cs,h=>cE.drop n us cs h.2
 | n+1,[],_ :: _,h=>h.elim
 | n+1,_ :: _,[],h=>h.elim
theorem jS {t:Ty} {us:List Value} {cs:List C} {x:t.den} {rest:List C} (hC:cE M w us cs)
 (hg:(match cs with
  | .d u x :: cs=>if h:u=t then some (h ▸ x,cs) else none
  | _=>none)=some (x,rest)):∃ c1 us',us=c1++us'/\af M w t c1 x/\cE M w us' rest:=by
 cases cs with
 | nil=>cases hg
 | cons c cs' =>
  cases c with
  | d u y =>
   dsimp only at hg;split at hg
   . rename_i e;subst e;cases hg;cases us with
     | nil=>exact hC.elim
     | cons v us=>exact ⟨[v],us,rfl,hC.1,hC.2⟩
   . cases hg
  | und=>cases hg
  | own u y z=>cases hg
  | arr u y z=>cases hg
theorem pU:∀ (t:Ty) (us:List Value) (cs:List C) (x:t.den) (rest:List C),cE M w us cs->bA t cs=some (x,rest) ->
 ∃ c1 us',us=c1++us'/\af M w t c1 x/\cE M w us' rest
 | .unit,us,cs,x,rest,h,hg=>by
  simp only [bA] at hg;cases hg;exact ⟨[],us,rfl,rfl,h⟩
 | .prod p q,us,cs,x,rest,h,hg=>by
  simp only [bA] at hg;cases h1:bA p cs with
  | none=>rw [h1] at hg;cases hg
  | some r1 =>
   obtain ⟨x1,cs1⟩:=r1;rw [h1] at hg;dsimp only at hg;cases h2:bA q cs1 with
   | none=>rw [h2] at hg;cases hg
   | some r2 =>
    obtain ⟨x2,cs2⟩:=r2;rw [h2] at hg;cases hg;obtain ⟨c1,us1,rfl,g1,g2⟩:=pU p us cs x1 cs1 h h1;obtain ⟨c2,us2,rfl,k1,k2⟩:=pU q us1 cs1 x2 rest g2 h2;exact ⟨c1++c2,us2,by simp,⟨c1,c2,rfl,g1,k1⟩,k2⟩
 | .list e,us,cs,x,rest,h,hg=>by
  cases cs with
  | nil=>simp [bA] at hg
  | cons c cs' =>
   cases c with
   | und=>simp [bA] at hg
   | arr u ys hh=>simp [bA] at hg
   | own u ys hh =>
    simp only [bA] at hg;split at hg
    . rename_i e';subst e';cases hg
      match us,h with
      | v :: us,h=>exact ⟨[v],us,rfl,h.1.1,h.2⟩
    . cases hg
   | d u y=>exact jS h (by simpa only [bA] using hg)
 | .int k,us,cs,x,rest,h,hg=>by
  refine jS h ?_;cases cs with
  | nil=>simp [bA] at hg
  | cons c cs'=>cases c<;>first|(simp [bA] at hg;done)|simpa only [bA] using hg
 | .bool,us,cs,x,rest,h,hg=>by
  refine jS h ?_;cases cs with
  | nil=>simp [bA] at hg
  | cons c cs'=>cases c<;>first|(simp [bA] at hg;done)|simpa only [bA] using hg
 | .str,us,cs,x,rest,h,hg=>by
  refine jS h ?_;cases cs with
  | nil=>simp [bA] at hg
  | cons c cs'=>cases c<;>first|(simp [bA] at hg;done)|simpa only [bA] using hg
 | .raw,us,cs,x,rest,h,hg=>by
  refine jS h ?_;cases cs with
  | nil=>simp [bA] at hg
  | cons c cs'=>cases c<;>first|(simp [bA] at hg;done)|simpa only [bA] using hg
 | .opq,us,cs,x,rest,h,hg=>by
  cases cs with
  | nil=>simp [bA] at hg
  | cons c cs' =>
   cases c with
   | d u y =>
    simp only [bA] at hg;split at hg
    . rename_i hu;cases hg
      match us,h with
      | v :: us,h =>
       refine ⟨[v],us,rfl,?_,h.2⟩;rcases hu with rfl|rfl
       . exact h.1
       . have h1:[v]=[y]/\y.cells = #[y]/\y.oneCell'=true:=h.1;exact ⟨y,h1.1,h1.2.1,h1.2.2⟩
    . cases hg
   | _=>simp [bA] at hg
 | .dyn T e,us,cs,x,rest,h,hg=>by
  refine jS h ?_;cases cs with
  | nil=>simp [bA] at hg
  | cons c cs'=>cases c<;>first|(simp [bA] at hg;done)|simpa only [bA] using hg
 | .ptr e,us,cs,x,rest,h,hg=>by
  refine jS h ?_;cases cs with
  | nil=>simp [bA] at hg
  | cons c cs'=>cases c<;>first|(simp [bA] at hg;done)|simpa only [bA] using hg
 | .clo T e e2,us,cs,x,rest,h,hg=>by
  refine jS h ?_;cases cs with
  | nil=>simp [bA] at hg
  | cons c cs'=>cases c<;>first|(simp [bA] at hg;done)|simpa only [bA] using hg
theorem gr {n:Nat} {T:TypeId} {t:Ty} (ht:bj P n T=some t) {b off:Nat} {cells:Array Value} {E:TypeId} {c1 us':List Value}
 (hh:w.heap[b]? = some (.cells cells E (0,0))) (hd:cells.toList.drop off=c1++us') (hl:c1.length=t.size):(loadVar T ⟨b,off,none⟩).run P w = .ok (aP t c1) w:=by
 refine AP ht hl fun j hj=>?_
 rw [cell_of_row w b (off+j) cells E (0,0) hh];have:cells.toList[off+j]? = some c1[j]:=by
  rw [<- List.getElem?_drop,hd,List.getElem?_append_left hj,List.getElem?_eq_getElem hj]
 simpa using this
theorem Su (hg:Good M0 F M st a w) (hb:Fr F w0 w) (hnb:aN st o) {T:TypeId} {x:Operand} (ho:o.op = .load T x)
 {t:Ty} (ht:ty P T=some t) {hm off:Nat} (e:place x (ak st x)=some (hm,off)) {cs:List C} (hc:get st hm = .box cs)
 {rd0:Nat} {c:Bool} {rd:Nat} {wr:List (Nat×S)}
 (h:(match bA t (cs.drop off) with
  | some (x,_)=>aM o.dst.toList true rd0 (.d t x)
  | none=>.bad) = .eff c rd wr):aU P F M0 w0 o a w (app wr st):=by
 split at h;rotate_left
 . cases h
 rename_i y rest hy;obtain ⟨b,cs',e1,e2,e3⟩:=nA hg e;rw [hc] at e1;cases e1;have hs:=hg.slot hm;rw [hc] at hs;obtain ⟨b',E,cells,f1,f2,f3,f4,f5⟩:=hs;rw [e2] at f1;cases f1;have hall:cE M w cells.toList cs:=(ie _ _).2 ⟨by simpa using f3,fun k c u h1 h2=>f5 k c u h1 (by simpa using h2)⟩;obtain ⟨c1,us',k1,k2,_⟩:=pU t _ _ y rest (hall.drop off) hy;refine aX hg hb hnb h rfl (v:=aP t c1) ?_ ⟨c1,rfl,k2⟩;simp [execOp,ho,e3,Instr.loadAt,Instr.sureAddr,gr ht f2 k1 (af.length _ _ _ k2)]
theorem TL (hg:Good M0 F M st a w) (hb:Fr F w0 w) (hnb:aN st o) {T:TypeId} {x:Operand} (ho:o.op = .load T x)
 {c:Bool} {rd:Nat} {wr:List (Nat×S)} (h:az P Φ o st = .eff c rd wr) (hc0:c=true):aU P F M0 w0 o a w (app wr st):=by
 simp only [az,ho] at h;have hx:=bx hg x;split at h
 . rename_i t y e;split at h;rotate_left
   . cases h
   rename_i ht;rw [e] at hx;obtain ⟨b,off,cs,e1,e2,e3,e4⟩:=hx;refine aX hg hb hnb h rfl (v:=aP t cs) ?_ ⟨cs,rfl,e4⟩;simp [execOp,ho,e1,Instr.loadAt,Instr.sureAddr,AP ht e2 fun j hj=>(e3 j hj).1]
 . rename_i hm kk u i e;split at h;rotate_left
   . cases h
   rename_i ht;split at h;rotate_left
   . cases h
   rename_i y ey;split at h;rotate_left
   . cases h
   rename_i hyu;subst hyu;rw [e] at hx;obtain ⟨v,hv,_,h3,_⟩:=xM hg ey;obtain ⟨g,hgv,hxv⟩:=h3 _ i hx;simp only [Pre.eff.injEq] at h;obtain ⟨hc',hrd,hwr⟩:=h;rw [hc0] at hc';have hlt:i<y.2.length:=of_decide_eq_true hc';rcases hv with ⟨e1,e2⟩|⟨g',cap,cells,T',e1,e2,e3,e4,e5,e6,e7⟩
   . rw [e2] at hlt;simp at hlt
   . rw [e1] at hgv;simp [ag] at hgv;subst hgv;have hrep:=e7 i hlt;have hlen:=af.length _ _ _ hrep;have hsplit:cells.toList.drop (i * y.1.size)=(cells.toList.drop (i * y.1.size)).take y.1.size++(cells.toList.drop (i * y.1.size)).drop y.1.size:=(List.take_append_drop _ _).symm;subst hwr;have hrun:=gr (P:=P) ht e2 hsplit hlen;refine .same (v:=aP y.1 ((cells.toList.drop (i * y.1.size)).take y.1.size)) hb ?_ (hg.fin hnb rfl ⟨_,rfl,?_⟩)
     . simp [execOp,ho,hxv,Instr.loadAt,Instr.sureAddr,hrun]
     . have:List.getD y.2 i y.1.zero=y.2[i]:=by rw [List.getD_eq_getElem?_getD,List.getElem?_eq_getElem hlt];rfl
       rw [this];exact hrep
 . split at h;rotate_left
   . cases h
   rename_i hm off e;split at h;rotate_left
   . cases h
   rename_i cs hc;split at h;rotate_left
   . cases h
   rename_i t ht;split at h
   . rename_i e' u ys hh hcell;split at h;rotate_left
     . cases h
     rename_i heq;subst heq;obtain ⟨b,cs',e1,e2,e3⟩:=nA hg e;rw [hc] at e1;cases e1;have hs:=hg.slot hm;rw [hc] at hs;obtain ⟨b',E,cells,f1,f2,f3,f4,f5⟩:=hs;rw [e2] at f1;cases f1;have hlt:off<cells.size:=by have:=(List.getElem?_eq_some_iff.1 hcell).1;omega
     have hcv:cells[off]? = some cells[off]:=Array.getElem?_eq_getElem hlt;have hok:=f5 off _ _ hcell hcv;have hd:cells.toList.drop off=[cells[off]]++cells.toList.drop (off+1):=by
      rw [List.drop_eq_getElem_cons (by simpa using hlt)];simp
     refine aX hg hb hnb h rfl (v:=cells[off]) ?_ ⟨hok.1,fun cs2 u2 ys2 b2 g1 g2 g3=>?_⟩
     . have:=gr (P:=P) ht f2 hd rfl;simp only [aP,Ty.agg] at this;simp [execOp,ho,e3,Instr.loadAt,Instr.sureAddr,this]
     . rw [e2] at g3;simp [ag] at g3;subst g3;rw [cell_of_row w _ off cells E (0,0) f2];exact hcv
   . rename_i e' u ys hh hcell;split at h;rotate_left
     . cases h
     rename_i heq;subst heq;obtain ⟨b,cs',e1,e2,e3⟩:=nA hg e;rw [hc] at e1;cases e1;have hs:=hg.slot hm;rw [hc] at hs;obtain ⟨b',E,cells,f1,f2,f3,f4,f5⟩:=hs;rw [e2] at f1;cases f1;have hlt:off<cells.size:=by have:=(List.getElem?_eq_some_iff.1 hcell).1;omega
     have hcv:cells[off]? = some cells[off]:=Array.getElem?_eq_getElem hlt;have hd:cells.toList.drop off=[cells[off]]++cells.toList.drop (off+1):=by
      rw [List.drop_eq_getElem_cons (by simpa using hlt)];simp
     refine aX hg hb hnb h rfl (v:=cells[off]) ?_ (fun cs2 ys2 b2 g1 g2 g3=>?_)
     . have:=gr (P:=P) ht f2 hd rfl;simp only [aP,Ty.agg] at this;simp [execOp,ho,e3,Instr.loadAt,Instr.sureAddr,this]
     . rw [e2] at g3;simp [ag] at g3;subst g3;rw [cell_of_row w _ off cells E (0,0) f2];exact hcv
   . exact Su hg hb hnb ho ht e hc h
theorem tP (hg:Good M0 F M st a w) {i:Operand} {n:Int} (e:iy (ak st i)=some n):∃ k,a.eval i = .int k n:=by
 have hi:=bx hg i;unfold iy at e;split at e
 . rename_i k m e';cases e;rw [e'] at hi;exact ⟨k,fL hi⟩
 . cases e
theorem RC (hg:Good M0 F M st a w) (hb:Fr F w0 w) (hnb:aN st o) {T:TypeId} {x i:Operand} (ho:o.op = .index T x i) (hu:P.underlying T=some .string)
 {xs:List UInt8} (hx:a.eval x = .string ⟨⟨xs⟩⟩) {n:Int} {k:IntKind} (hi:a.eval i = .int k n) {rd0:Nat} {c:Bool} {rd:Nat} {wr:List (Nat×S)}
 (h:aM o.dst.toList (ax n xs.length) rd0 (.d (.int .u8) (oU xs n)) = .eff c rd wr) (hc:c=true):aU P F M0 w0 o a w (app wr st):=by
 have h1:ax n xs.length=true:=by simp only [aM,Pre.eff.injEq] at h;rw [h.1];exact hc
 simp only [ax,Bool.and_eq_true,decide_eq_true_eq] at h1;have hlt:n.toNat<xs.length:=by omega
 refine aX hg hb hnb h rfl (v:=.int .u8 (oU xs n)) ?_ (dq _ _);have hget:(⟨⟨xs⟩⟩:ByteArray)[n.toNat]? = some xs[n.toNat]:=by
  have hs:n.toNat<(⟨⟨xs⟩⟩:ByteArray).size:=hlt;rw [getElem?_pos (⟨⟨xs⟩⟩:ByteArray) n.toNat hs];rfl
 have hv:oU xs n=((xs[n.toNat]).toNat:Int):=by simp [oU,List.getD_eq_getElem?_getD,hlt]
 simp [execOp,ho,hx,hi,Instr.index,asIntOf,run_underlying hu,h1.1,hget,hv]
theorem xQ (hg:Good M0 F M st a w) {d n:Int} {lo:Option Operand} (e:gM st d lo=some n):(lo=none/\n=d)\/∃ i k,lo=some i/\a.eval i = .int k n:=by
 cases lo with
 | none=>simp [gM] at e;exact .inl ⟨rfl,e.symm⟩
 | some i=>obtain ⟨k,hk⟩:=tP hg e;exact .inr ⟨i,k,rfl,hk⟩
theorem H8 (hg:Good M0 F M st a w) {isS:Bool} {len cap:Nat} (hcap:len<=cap) {lo hi:Option Operand} {l h:Int} (el:gM st 0 lo=some l) (eh:gM st len hi=some h)
 (hc:jN l h len=true):(Instr.sliceBounds isS len cap (lo.map a.eval) (hi.map a.eval) none).run P w = .ok (l.toNat,h.toNat,cap) w:=by
 simp only [jN,Bool.and_eq_true,decide_eq_true_eq] at hc;obtain ⟨⟨h0,h1⟩,h2⟩:=hc;have hb:∀ (i:Operand) (k:IntKind) (n:Int) (y:Nat) (cd:BoundsCode),a.eval i = .int k n->0<=n->n<=y->(Instr.sliceBound (a.eval i) y cd).run P w = .ok n.toNat w:=by
  intro i k n y cd e p q;simp [Instr.sliceBound,e,asIntOf,p,q]
 rcases xQ hg eh with ⟨rfl,rfl⟩|⟨i,k,rfl,hk⟩
 . rcases xQ hg el with ⟨rfl,rfl⟩|⟨i,k,rfl,hk⟩
   . simp [Instr.sliceBounds]
   . have:=hb i k l len .sliceB hk h0 (by omega);simp [Instr.sliceBounds,this]
 . have h3:=hb i k h cap (if isS then .sliceAcap else .sliceAlen) hk (by omega) (by omega);rcases xQ hg el with ⟨rfl,rfl⟩|⟨i',k',rfl,hk'⟩
   . simp [Instr.sliceBounds,h3]
   . have:=hb i' k' l h.toNat .sliceB hk' h0 (by omega);simp [Instr.sliceBounds,h3,this]
theorem U_ (hg:Good M0 F M st a w) (hb:Fr F w0 w) (hnb:aN st o) {T:TypeId} {x:Operand} {lo hi:Option Operand} (ho:o.op = .slice T x lo hi none) (hu:P.underlying T=some .string)
 {xs:List UInt8} (hx:a.eval x = .string ⟨⟨xs⟩⟩) {rd0:Nat} {c:Bool} {rd:Nat} {wr:List (Nat×S)}
 (h:lM o.dst.toList rd0 xs st lo hi = .eff c rd wr) (hc:c=true):aU P F M0 w0 o a w (app wr st):=by
 unfold lM at h;split at h;rotate_left
 . cases h
 rename_i l r el er;have hok:jN l r (ae xs)=true:=by simp only [aM,Pre.eff.injEq] at h;rw [h.1];exact hc
 have hs:(⟨⟨xs⟩⟩:ByteArray).size=xs.length:=rfl;have hbd:=H8 (P:=P) hg (isS:=false) (len:=xs.length) (cap:=xs.length) (Nat.le_refl _) el er hok;refine aX hg hb hnb h rfl (v:=.string ⟨⟨cut xs l r⟩⟩) ?_ (qH (cut xs l r));have hcut:(⟨⟨xs⟩⟩:ByteArray).extract l.toNat r.toNat=⟨⟨cut xs l r⟩⟩:=by
  apply ByteArray.ext;rw [ByteArray.data_extract];apply Array.ext';simp [cut,List.extract]
 simp [execOp,ho,Instr.sliceAt,run_underlying hu,Instr.slice,hx,hs,hbd,hcut]
theorem U' (hg:Good M0 F M st a w) (hb:Fr F w0 w) (hnb:aN st o) {T E:TypeId} {x:Operand} {lo hi:Option Operand} (ho:o.op = .slice T x lo hi none) (hu:P.underlying T=some (.slice E))
 {m:Nat} {e:Ty} (hE:bj P m E=some e) {xs:List e.den} (hx:aw M w (.list e) (a.eval x) xs) {rd0:Nat} {c:Bool} {rd:Nat} {wr:List (Nat×S)}
 (h:lK o.dst.toList rd0 e xs st lo hi = .eff c rd wr) (hc:c=true):aU P F M0 w0 o a w (app wr st):=by
 unfold lK at h;split at h;rotate_left
 . cases h
 rename_i l r el er;have hok:jN l r (ae xs)=true:=by simp only [aM,Pre.eff.injEq] at h;rw [h.1];exact hc
 obtain ⟨p,cap,f1,f2,f3⟩:=ra hx;simp only [List.cons.injEq,and_true] at f1;have hbd:=H8 (P:=P) hg (isS:=true) (len:=xs.length) (cap:=cap) f2 el er hok;have hok':=hok;simp only [jN,ae,Bool.and_eq_true,decide_eq_true_eq] at hok';obtain ⟨⟨h0,h1⟩,h2⟩:=hok';have h2:r<=(xs.length:Int):=of_decide_eq_true h2;have hlen:(cut xs l r).length=r.toNat - l.toNat:=by simp [cut];omega
 refine aX hg hb hnb h rfl (v:=.slice (if cap=l.toNat then p else p.map (·.add (l.toNat * e.size))) (r.toNat - l.toNat) (cap - l.toNat)) ?_ (fK ?_)
 . simp [execOp,ho,Instr.sliceAt,run_underlying hu,Instr.slice,f1,hbd,fq hE]
 . refine ⟨_,cap - l.toNat,by rw [hlen],by rw [hlen];omega,fun i hi'=>?_⟩;have hi2:l.toNat+i<xs.length:=by omega
   obtain ⟨b,off,ec,g1,g2,g3,g4⟩:=f3 (l.toNat+i) hi2;refine ⟨b,off+l.toNat * e.size,ec,?_,g2,?_,?_⟩
   . rw [if_neg (by omega),g1];simp [gh]
   . have:off+l.toNat * e.size+i * e.size=off+(l.toNat+i) * e.size:=by rw [Nat.add_mul];omega
     rw [this];exact g3
   . have:(cut xs l r)[i]=xs[l.toNat+i]:=by simp [cut]
     rw [this];exact g4
theorem zG (e:Ty):∀ (n:Nat) (x:(cL e n).den),(iB e n x).length=n
 | 0,_=>rfl
 | n+1,x=>by
  show (iB e n x.2).length+1=n+1;rw [zG e n]
theorem G7 {M:ai} {w:World} {e:Ty}:∀ (n:Nat) (cs:List Value) (y:(cL e n).den),af M w (cL e n) cs y->∀ (i:Nat) (hi:i<(iB e n y).length),∃ ec,ec.length=e.size/\(∀ j (hj:j<ec.length),cs[i * e.size+j]? = some ec[j])/\af M w e ec ((iB e n y)[i])
 | 0,_,_,_,i,hi=>by simp [iB] at hi
 | n+1,cs,y,h,i,hi=>by
  obtain ⟨c1,c2,rfl,h1,h2⟩:=h;have hl1:=af.length _ _ _ h1;cases i with
  | zero =>
   refine ⟨c1,hl1,fun j hj=>?_,h1⟩;rw [Nat.zero_mul,Nat.zero_add,List.getElem?_append_left hj,List.getElem?_eq_getElem hj]
  | succ i =>
   have hi':i<(iB e n y.2).length:=by simpa [iB] using hi
   obtain ⟨ec,k1,k2,k3⟩:=G7 n c2 y.2 h2 i hi';refine ⟨ec,k1,fun j hj=>?_,k3⟩;rw [List.getElem?_append_right (by rw [hl1,Nat.succ_mul];omega),hl1];have:(i+1) * e.size+j - e.size=i * e.size+j:=by rw [Nat.succ_mul];omega
   rw [this];exact k2 j hj
theorem U9 (hg:Good M0 F M st a w) (hb:Fr F w0 w) (hnb:aN st o) {T E:TypeId} {len:Nat} {x:Operand} (ho:o.op = .slice T x none none none) (hu:P.underlying T=some (.array len E))
 {m:Nat} {e:Ty} (hE:bj P m E=some e) {y:(cL e len).den} (hx:aw M w (.ptr (cL e len)) (a.eval x) y) {rd0:Nat} {c:Bool} {rd:Nat} {wr:List (Nat×S)}
 (h:aM o.dst.toList true rd0 (.d (.list e) (iB e len y)) = .eff c rd wr) (hc:c=true):aU P F M0 w0 o a w (app wr st):=by
 obtain ⟨cs',e1,b,off,ec,e2,e3,e4,e5⟩:=hx;subst e2;have hv:a.eval x = .pointer (some ⟨b,off,none⟩):=e1;refine aX hg hb hnb h rfl (v:=.slice (some ⟨b,off,none⟩) len len) ?_ (fK ?_)
 . have hz:(if len=0 then (⟨b,off,none⟩:Addr) else (⟨b,off,none⟩:Addr).add (0 * e.size))=⟨b,off,none⟩:=by
    split
    . rfl
    . simp [Addr.add]
   simp [execOp,ho,Instr.sliceAt,run_underlying hu,hv,Instr.sureAddr,Instr.sliceBounds,fq hE,Addr.add]
 . refine ⟨some ⟨b,off,none⟩,len,by rw [zG],by rw [zG];exact Nat.le_refl _,fun i hi=>?_⟩;obtain ⟨ec',k1,k2,k3⟩:=G7 len ec y e5 i hi;refine ⟨b,off,ec',rfl,k1,fun j hj=>?_,k3⟩;have h2:=k2 j hj;obtain ⟨hlt,h3⟩:=List.getElem?_eq_some_iff.1 h2;have:=e4 _ hlt;rw [h3] at this;rw [Nat.add_assoc];exact this
theorem TZ (hg:Good M0 F M st a w) (hb:Fr F w0 w) (hnb:aN st o) {T:TypeId} {x:Operand} {lo hi mx:Option Operand} (ho:o.op = .slice T x lo hi mx)
 {c:Bool} {rd:Nat} {wr:List (Nat×S)} (h:az P Φ o st = .eff c rd wr) (hc:c=true):aU P F M0 w0 o a w (app wr st):=by
 simp only [az,ho] at h;have hx:=bx hg x;unfold nI at h;split at h
 . cases h
 . split at h
   . rename_i hu;split at h
     . rename_i xs e;rw [e] at hx;exact U_ hg hb hnb ho hu (rh hx) h hc
     . cases h
   . rename_i E hu;split at h;rotate_left
     . cases h
     rename_i e ht;split at h;rotate_left
     . cases h
     rename_i xs hxs;obtain ⟨E',m,hu',hE,_⟩:=mh ht;rw [hu] at hu';cases hu';exact U' hg hb hnb ho hu hE (cO hx hxs) h hc
   . rename_i len E hu;split at h;rotate_left
     . cases h
     split at h;rotate_left
     . cases h
     rename_i e ht;split at h;rotate_left
     . cases h
     rename_i y hy;exact U9 hg hb hnb ho hu ht (cO hx hy) h hc
   . cases h
end
open Go.RowKit (Below)
section
variable {P : Program} {Φ : Nat → List Spec} {F : Nat → Prop} {M0 : Base} {w0 : World} {M : ai} {st : St} {a : Act} {w : World} {o : Oper}
theorem fu (hg:Good M0 F M st a w) {x:Operand} {t:Ty} {y:t.den} (e:ak st x = .d t y):aw M w t (a.eval x) y:=by
 have:=bx hg x;rw [e] at this;exact this
theorem Uq (hg:Good M0 F M st a w) (hb:Fr F w0 w) (hnb:aN st o) {c0 x y:Operand} (ho:o.op = .pick c0 x y)
 {v:Bool} (hc0:a.eval c0 = .bool v) {c:Bool} {rd0 rd:Nat} {wr:List (Nat×S)}
 (h:(match ak st x,ak st y with
  | .d t x,.d u y=>if h:u=t then aM o.dst.toList true rd0 (.d t (bif v then x else h ▸ y)) else .bad
  | .d t x,_=>.eff v rd0 (o.dst.toList.map (·,S.d t x))
  | _,.d t x=>.eff (ui v) rd0 (o.dst.toList.map (·,S.d t x))
  | _,_=>.bad) = .eff c rd wr) (hc:c=true):aU P F M0 w0 o a w (app wr st):=by
 have hr:(execOp a.eval o).run P w = .ok (.value (if v then a.eval x else a.eval y)) w:=by
  simp [execOp,ho,hc0,asBool]
 split at h
 . rename_i t x' u y' e1 e2;split at h;rotate_left
   . cases h
   rename_i e;subst e;refine aX hg hb hnb h rfl hr ?_;cases v with
   | true=>exact fu hg e1
   | false=>exact fu hg e2
 . rename_i t x' _ _;have e1:ak st x = .d t x':=by assumption
   have hv:v=true:=by simp only [Pre.eff.injEq] at h;rw [h.1];exact hc
   subst hv;exact aX (c:=true) (rd:=rd0) hg hb hnb h rfl hr (fu hg e1)
 . rename_i t x' _ _;have e1:ak st y = .d t x':=by assumption
   have hv:v=false:=by simp only [Pre.eff.injEq] at h;have:=h.1;rw [hc] at this;simpa [ui] using this
   subst hv;exact aX (c:=true) (rd:=rd0) hg hb hnb h rfl hr (fu hg e1)
 . cases h
theorem TV (hg:Good M0 F M st a w) (hb:Fr F w0 w) (hnb:aN st o) {c0 x y:Operand} (ho:o.op = .pick c0 x y)
 {c:Bool} {rd:Nat} {wr:List (Nat×S)} (h:az P Φ o st = .eff c rd wr) (hc:c=true):aU P F M0 w0 o a w (app wr st):=by
 simp only [az,ho] at h;split at h
 . rename_i v e;exact Uq hg hb hnb ho (HK (fu hg e)) h hc
 . cases h
theorem Ns (hg:Good M0 F M st a w) (hb:Fr F w0 w) (hnb:aN st o) {s t:TypeId} {x:Operand} (ho:o.op = .convert s t x)
 {j k k':IntKind} (hs:P.underlying s=some (.int j)) (ht:P.underlying t=some (.int k)) {n:Int} (hx:a.eval x = .int k' n) {c:Bool} {rd0 rd:Nat} {wr:List (Nat×S)}
 (h:aM o.dst.toList true rd0 (.d (.int k) (J1 k n)) = .eff c rd wr):aU P F M0 w0 o a w (app wr st):=by
 refine aX hg hb hnb h rfl (v:=.int k (k.wrap n)) ?_ (dq _ _);simp [execOp,ho,hx,convert,run_underlying hs,run_underlying ht,Conv.intToInt]
theorem Nt (hg:Good M0 F M st a w) (hb:Fr F w0 w) (hnb:aN st o) {s t:TypeId} {x:Operand} (ho:o.op = .convert s t x)
 (hs:P.underlying s=some .string) (ht:P.underlying t=some .string) {b:List UInt8} (hx:a.eval x = .string ⟨⟨b⟩⟩) {c:Bool} {rd0 rd:Nat} {wr:List (Nat×S)}
 (h:aM o.dst.toList true rd0 (.d .str b) = .eff c rd wr):aU P F M0 w0 o a w (app wr st):=by
 refine aX hg hb hnb h rfl (v:=.string ⟨⟨b⟩⟩) ?_ (qH b);simp [execOp,ho,hx,convert,run_underlying hs,run_underlying ht]
theorem Re (xs:List Int):∀ (acc:ByteArray),xs.foldl (fun s n=>s.push (UInt8.ofNat n.toNat)) acc=⟨⟨acc.data.toList++dE xs⟩⟩:=by
 induction xs with
 | nil=>intro acc;simp [dE]
 | cons n xs ih =>
  intro acc;rw [List.foldl_cons,ih];simp [dE,ByteArray.push]
theorem TN (hg:Good M0 F M st a w) (hb:Fr F w0 w) (hnb:aN st o) {T:TypeId} {x:Operand} (ho:o.op = .makeInterface T x)
 {c:Bool} {rd:Nat} {wr:List (Nat×S)} (h:az P Φ o st = .eff c rd wr):aU P F M0 w0 o a w (app wr st):=by
 simp only [az,ho] at h;have hx:=bx hg x;split at h
 . cases h
 . rename_i hni;split at h;rotate_left
   . cases h
   rename_i t ht;split at h;rotate_left
   . cases h
   rename_i v hv;obtain ⟨cs,e1,e2⟩:=cO hx hv;obtain ⟨m,_,d,hd,_⟩:=jD ht;refine aX hg hb hnb h rfl (v:=.iface T (a.eval x)) ?_ ⟨[.iface T (a.eval x)],rfl,cs,by rw [e1],e2⟩;have hdi:∀ ms,d ≠ .interface ms:=fun ms e=>hni ms (by rw [hd,e])
   have:(Instr.makeInterface T (a.eval x)).run P w = .ok (.iface T (a.eval x)) w:=by
    unfold Instr.makeInterface;rw [Sem.run_bind,run_underlying hd w];cases d<;>first|rfl|exact (hdi _ rfl).elim
   simp [execOp,ho,this]
theorem rf {T:TypeId} {v:Value} {n:Nat} (h:(P.underlying T=some .string/\∃ s:ByteArray,v = .string s/\s.size=n)\/(∃ E,P.underlying T=some (.slice E))/\∃ p c,v = .slice p n c)
 (T':TypeId) (Ts:List TypeId) (w:World):(Builtin.len_ (T :: Ts).toArray T' #[v]).run P w = .ok (.int .i64 n) w:=by
 rcases h with ⟨h1,s,rfl,rfl⟩|⟨⟨E,h1⟩,p,c,rfl⟩
 . simp [Builtin.len_,run_underlying h1,goInt]
 . simp [Builtin.len_,run_underlying h1,goInt]
theorem TK (hg:Good M0 F M st a w) (hb:Fr F w0 w) (hnb:aN st o) {T:TypeId} {Ts:List TypeId} {x:Operand} {cl:Call} (ho:o.op = .call cl)
 (h1:cl.callee = .builtin .len) (h2:cl.argTypes=(T :: Ts).toArray) (h3:cl.args = #[x]) {rd0:Nat}
 {c:Bool} {rd:Nat} {wr:List (Nat×S)} (h:jt P o.dst.toList st rd0 T (ak st x) = .eff c rd wr):aU P F M0 w0 o a w (app wr st):=by
 have hx:=bx hg x;have hrun:∀ n:Nat,(Builtin.len_ (T :: Ts).toArray o.type #[a.eval x]).run P w = .ok (.int .i64 n) w->(execOp a.eval o).run P w = .ok (.value (.int .i64 n)) w:=fun n e=>by
  obtain ⟨callee,args,argTypes⟩:=cl;simp only at h1 h2 h3;subst h1;subst h2;subst h3;simp [execOp,ho,resolve,invoke,builtin,e]
 unfold jt at h;split at h
 . rename_i hu;split at h
   . rename_i xs e;rw [e] at hx;exact aX hg hb hnb h rfl (hrun _ (rf (.inl ⟨hu,_,rh hx,rfl⟩) _ _ w)) (dq _ _)
   . cases h
 . rename_i E hu;have key:∀ {e:Ty} {xs:List e.den},af M w (.list e) [a.eval x] xs->(execOp a.eval o).run P w = .ok (.value (.int .i64 (ae xs))) w:=fun {e xs} hr=>by
    obtain ⟨p,cap,f1,f2,_⟩:=hr;simp only [List.cons.injEq,and_true] at f1;exact hrun _ (rf (.inr ⟨⟨E,hu⟩,p,cap,f1⟩) _ _ w)
   split at h
   . rename_i e xs e';rw [e'] at hx;exact aX hg hb hnb h rfl (key (ra hx)) (dq _ _)
   . rename_i e xs hh e';rw [e'] at hx;exact aX hg hb hnb h rfl (key hx.1) (dq _ _)
   . rename_i hm k e xs e';rw [e'] at hx;have:af M w (.list e) [a.eval x] xs:=by cases k<;>exact hx.1
     exact aX hg hb hnb h rfl (key this) (dq _ _)
   . rename_i e';rw [e'] at hx;have hx:a.eval x = .slice none 0 0:=hx;exact aX hg hb hnb h rfl (hrun 0 (rf (.inr ⟨⟨E,hu⟩,none,0,hx⟩) _ _ w)) (dq _ _)
   . rename_i hm k t e';split at h;rotate_left
     . cases h
     rename_i y ey;split at h;rotate_left
     . cases h
     rename_i hyt;subst hyt;rw [e'] at hx;obtain ⟨v,hv,h4,_⟩:=xM hg ey;have hxv:=h4 _ hx;have hl:∃ p cp,a.eval x = .slice p y.2.length cp:=by
      rcases hv with ⟨e1,e2⟩|⟨g,cap,cells,T',e1,_⟩
      . exact ⟨none,0,by rw [hxv,e1,e2];rfl⟩
      . exact ⟨_,cap,by rw [hxv,e1]⟩
     obtain ⟨p,cp,hl⟩:=hl;exact aX hg hb hnb h rfl (hrun _ (rf (.inr ⟨⟨E,hu⟩,p,cp,hl⟩) _ _ w)) (dq _ _)
   . cases h
 . cases h
theorem Hb (hg:Good M0 F M st a w) (hb:Fr F w0 w) (hnb:aN st o) {mx:Bool} {x y:Operand} {cl:Call} (ho:o.op = .call cl)
 (h1:cl.callee = .builtin (if mx then .max else .min)) (h3:cl.args = #[x,y]) {k k':IntKind} {m n:Int} (hx:a.eval x = .int k m) (hy:a.eval y = .int k' n) {rd0:Nat}
 {c:Bool} {rd:Nat} {wr:List (Nat×S)} (h:lJ mx o.dst.toList rd0 k m k' n = .eff c rd wr):aU P F M0 w0 o a w (app wr st):=by
 unfold lJ at h;split at h;rotate_left
 . cases h
 rename_i hk;subst hk;obtain ⟨callee,args,argTypes⟩:=cl;simp only at h1 h3;subst h1;subst h3;cases mx with
 | true =>
  refine aX hg hb hnb h rfl (v:=.int k (if n > m then n else m)) ?_ (dq _ _);simp [execOp,ho,resolve,invoke,builtin,hx,hy,Builtin.max_,Builtin.max2]
 | false =>
  refine aX hg hb hnb h rfl (v:=.int k (if n<m then n else m)) ?_ (dq _ _);simp [execOp,ho,resolve,invoke,builtin,hx,hy,Builtin.min_,Builtin.min2]
end
end Go.V
end
