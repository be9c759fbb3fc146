/- A part of the proof of TopNinesSaid: no condition beyond what each theorem says. -/
import Derived.Calls
import Derived.Orders
import Derived.Below
import Derived.Laws.Rows
import Derived.Laws.AppendOwn
import Derived.KernelRfl
set_option linter.all false
namespace Go.V
open Go.RowKit (Below)
inductive Ty where
  | int (k:IntKind)
  | bool
  | str
  | list (e:Ty)
  | unit
  | prod (a b:Ty)
  | raw
  | opq
  | dyn (T:Nat) (e:Ty)
  | ptr (t:Ty)
  | clo (g:Nat) (a b:Ty)
  deriving DecidableEq
def Ty.den:Ty->Type
  | .int _=>Int
  | .bool=>Bool
  | .str=>List UInt8
  | .list e=>List e.den
  | .unit=>Unit
  | .prod a b=>a.den×b.den
  | .raw=>Value
  | .opq=>Unit
  | .dyn _ e=>e.den
  | .ptr t=>t.den
  | .clo _ a b=>a.den×b.den
def Ty.size:Ty->Nat
  | .unit=>0
  | .prod a b=>a.size+b.size
  | _=>1
def Ty.agg:Ty->Bool
  | .unit=>true
  | .prod _ _=>true
  | _=>false
def Ty.zero:(t:Ty)->t.den
  | .int _=>(0:Int)
  | .bool=>false
  | .str=>([]:List UInt8)
  | .list _=>[]
  | .unit=>()
  | .prod a b=>(a.zero,b.zero)
  | .raw=>Value.nilFunc
  | .opq=>()
  | .dyn _ e=>e.zero
  | .ptr t=>t.zero
  | .clo _ a b=>(a.zero,b.zero)
def Ty.isUnit:Ty->Bool
  | .unit=>true
  | _=>false
def toVal (t:Ty) (cs:List Value):Value:=if t.agg then .agg cs.toArray else cs.headD undef
def firstsOf (a:Ty) (fc:List Value):Array Value:=if a.isUnit then #[] else #[toVal a fc]
abbrev Mut:=Nat->Nat->Prop
def CellsAt (M:Mut) (w:World) (b o:Nat) (cs:List Value):Prop :=
  ∀ j (h:j<cs.length),w.cell? ⟨b,o+j,none⟩=some cs[j]/\¬ M b (o+j)
def ListAt {α:Type} (M:Mut) (w:World) (sz:Nat) (R:List Value->α->Prop) (cs:List Value) (xs:List α):Prop :=
  ∃ a cap,cs=[.slice a xs.length cap]/\xs.length<=cap /\
    ∀ i (h:i<xs.length),∃ b o ec,a=some ⟨b,o,none⟩/\ec.length=sz/\CellsAt M w b (o+i * sz) ec/\R ec xs[i]
def RepC (M:Mut) (w:World):(t:Ty)->List Value->t.den->Prop
  | .int k,cs,x=>cs=[.int k x]
  | .bool,cs,x=>cs=[.bool x]
  | .str,cs,x=>cs=[.string ⟨⟨x⟩⟩]
  | .list e,cs,xs=>ListAt M w e.size (fun ec x=>RepC M w e ec x) cs xs
  | .unit,cs,_=>cs=[]
  | .prod a b,cs,x=>∃ c1 c2,cs=c1++c2/\RepC M w a c1 x.1/\RepC M w b c2 x.2
  | .raw,cs,x=>cs=[x]/\x.cells = #[x]/\x.oneCell'=true
  | .opq,cs,_=>∃ v:Value,cs=[v]/\v.cells = #[v]/\v.oneCell'=true
  | .dyn T e,cs,x=>∃ ec,cs=[.iface T (toVal e ec)]/\RepC M w e ec x
  | .ptr t,cs,x=>∃ b o ec,cs=[.pointer (some ⟨b,o,none⟩)]/\ec.length=t.size/\CellsAt M w b o ec/\RepC M w t ec x
  | .clo g a b,cs,x=>∃ fc pc,cs=[.func (.func g) (firstsOf a fc) pc.toArray]/\RepC M w a fc x.1/\RepC M w b pc x.2
def RepV (M:Mut) (w:World) (t:Ty) (v:Value) (x:t.den):Prop:=∃ cs,v=toVal t cs/\RepC M w t cs x
def Stable (M:Mut) (w:World) (M':Mut) (w':World):Prop :=
  ∀ b o v,w.cell? ⟨b,o,none⟩=some v->¬ M b o->w'.cell? ⟨b,o,none⟩=some v/\¬ M' b o
theorem CellsAt.mono {M M':Mut} {w w':World} (hs:Stable M w M' w') {b o:Nat} {cs:List Value} (h:CellsAt M w b o cs):CellsAt M' w' b o cs :=
  fun j hj=>hs _ _ _ (h j hj).1 (h j hj).2
theorem RepC.mono {M M':Mut} {w w':World} (hs:Stable M w M' w'):∀ (t:Ty) (cs:List Value) (x:t.den),RepC M w t cs x->RepC M' w' t cs x
  | .int _,_,_,h=>h
  | .bool,_,_,h=>h
  | .str,_,_,h=>h
  | .list e,_,_,h=>by
    obtain ⟨a,cap,h1,h2,h3⟩:=h
    refine ⟨a,cap,h1,h2,fun i hi=>?_⟩
    obtain ⟨b,o,ec,e1,e2,e3,e4⟩:=h3 i hi
    exact ⟨b,o,ec,e1,e2,e3.mono hs,RepC.mono hs e _ _ e4⟩
  | .unit,_,_,h=>h
  | .prod a b,_,_,h=>by
    obtain ⟨c1,c2,e1,e2,e3⟩:=h
    exact ⟨c1,c2,e1,RepC.mono hs a _ _ e2,RepC.mono hs b _ _ e3⟩
  | .raw,_,_,h=>h
  | .opq,_,_,h=>h
  | .dyn T e,_,_,h=>by
    obtain ⟨ec,e1,e2⟩:=h
    exact ⟨ec,e1,RepC.mono hs e _ _ e2⟩
  | .ptr t,_,_,h=>by
    obtain ⟨b,o,ec,e1,e2,e3,e4⟩:=h
    exact ⟨b,o,ec,e1,e2,e3.mono hs,RepC.mono hs t _ _ e4⟩
  | .clo g a b,_,_,h=>by
    obtain ⟨fc,pc,e1,e2,e3⟩:=h
    exact ⟨fc,pc,e1,RepC.mono hs a _ _ e2,RepC.mono hs b _ _ e3⟩
theorem RepV.mono {M M':Mut} {w w':World} (hs:Stable M w M' w') {t:Ty} {v:Value} {x:t.den} (h:RepV M w t v x):RepV M' w' t v x:=by
  obtain ⟨cs,e,h⟩:=h
  exact ⟨cs,e,RepC.mono hs t cs x h⟩
theorem RepC.length {M:Mut} {w:World}:∀ (t:Ty) (cs:List Value) (x:t.den),RepC M w t cs x->cs.length=t.size
  | .int _,_,_,h=>by rw [show _=_ from h];rfl
  | .bool,_,_,h=>by rw [show _=_ from h];rfl
  | .str,_,_,h=>by rw [show _=_ from h];rfl
  | .list e,_,_,h=>by obtain ⟨a,cap,h1,_⟩:=h;rw [h1];rfl
  | .unit,_,_,h=>by rw [show _=_ from h];rfl
  | .prod a b,_,_,h=>by
    obtain ⟨c1,c2,e1,e2,e3⟩:=h
    rw [e1,List.length_append,RepC.length a _ _ e2,RepC.length b _ _ e3];rfl
  | .raw,_,_,h=>by rw [h.1];rfl
  | .opq,_,_,h=>by obtain ⟨v,h,_⟩:=h;rw [h];rfl
  | .dyn T e,_,_,h=>by obtain ⟨ec,e1,_⟩:=h;rw [e1];rfl
  | .ptr t,_,_,h=>by obtain ⟨b,o,ec,e1,_⟩:=h;rw [e1];rfl
  | .clo g a b,_,_,h=>by obtain ⟨fc,pc,e1,_⟩:=h;rw [e1];rfl
theorem one_single {cs:List Value} {x:Value} (h:cs=[x]) (h1:x.cells = #[x]) (h2:x.oneCell'=true):∀ v∈cs,v.oneCell'=true/\v.cells = #[v]:=by
  subst h
  intro v hv
  rw [List.mem_singleton] at hv
  subst hv
  exact ⟨h2,h1⟩
theorem RepC.one {M:Mut} {w:World}:∀ (t:Ty) (cs:List Value) (x:t.den),RepC M w t cs x->∀ v∈cs,v.oneCell'=true/\v.cells = #[v]
  | .int _,_,_,h=>by rw [show _=_ from h];simp [Value.oneCell',Value.cells]
  | .bool,_,_,h=>by rw [show _=_ from h];simp [Value.oneCell',Value.cells]
  | .str,_,_,h=>by rw [show _=_ from h];simp [Value.oneCell',Value.cells]
  | .list e,_,_,h=>by obtain ⟨a,cap,h1,_⟩:=h;rw [h1];simp [Value.oneCell',Value.cells]
  | .unit,_,_,h=>by rw [show _=_ from h];simp
  | .prod a b,_,_,h=>by
    obtain ⟨c1,c2,e1,e2,e3⟩:=h
    intro v hv
    rw [e1,List.mem_append] at hv
    rcases hv with hv|hv
    . exact RepC.one a _ _ e2 v hv
    . exact RepC.one b _ _ e3 v hv
  | .raw,_,_,h=>by obtain ⟨h1,h2,h3⟩:=h;exact fun v hv=>one_single h1 h2 h3 v hv
  | .opq,_,_,h=>by obtain ⟨v,h,h2,h3⟩:=h;exact fun u hu=>one_single h h2 h3 u hu
  | .dyn T e,_,_,h=>by obtain ⟨ec,e1,_⟩:=h;rw [e1];simp [Value.oneCell',Value.cells]
  | .ptr t,_,_,h=>by obtain ⟨b,o,ec,e1,_⟩:=h;rw [e1];simp [Value.oneCell',Value.cells]
  | .clo g a b,_,_,h=>by obtain ⟨fc,pc,e1,_⟩:=h;rw [e1];simp [Value.oneCell',Value.cells]
theorem agg_false_size {t:Ty} (h:t.agg=false):t.size=1:=by cases t<;>simp_all [Ty.agg,Ty.size]
theorem toVal_cells {M:Mut} {w:World} {t:Ty} {cs:List Value} {x:t.den} (h:RepC M w t cs x):(toVal t cs).cells=cs.toArray:=by
  unfold toVal
  split
  . rfl
  . rename_i ha
    have hl:=RepC.length t cs x h
    rw [agg_false_size (by simpa using ha)] at hl
    match cs,hl,RepC.one t _ x h with
    | [v],_,h1=>simpa using (h1 v (by simp)).2
theorem stable_refl (M:Mut) (w:World):Stable M w M w:=fun _ _ _ h1 h2=>⟨h1,h2⟩
theorem Stable.trans {M M' M'':Mut} {w w' w'':World} (h:Stable M w M' w') (k:Stable M' w' M'' w''):Stable M w M'' w'' :=
  fun b o v h1 h2=>let ⟨a1,a2⟩:=h b o v h1 h2;k b o v a1 a2
theorem cell_lt {w:World} {b o:Nat} {v:Value} (h:w.cell? ⟨b,o,none⟩=some v):b<w.heap.size:=block_lt_of_cell h
theorem stable_below {M:Mut} {w w':World} (hb:Below w.heap.size w w'):Stable M w M w' :=
  fun _ _ _ h1 h2=>⟨(hb.cell (p:=⟨_,_,none⟩) (cell_lt h1)).trans h1,h2⟩
theorem RepC.list_nil {M:Mut} {w:World} (e:Ty):RepC M w (.list e) [.slice none 0 0] ([]:List e.den) :=
  ⟨none,0,rfl,Nat.le_refl _,fun i hi=>absurd hi (by simp)⟩
end Go.V
namespace Go.V
inductive Out (α:Type) where
  | ret (x:α)
  | pan (p:Value)
  | fail
inductive C where
  | und
  | d (t:Ty) (x:t.den)
  | own (t:Ty) (xs:List t.den) (hot:Bool)
  | arr (t:Ty) (xs:List t.den) (hot:Bool)
inductive S where
  | und
  | nil
  | d (t:Ty) (x:t.den)
  | own (t:Ty) (xs:List t.den) (hot:Bool)
  | al (h:Nat) (k:Option Nat) (t:Ty) (xs:List t.den)
  | ref (t:Ty) (x:t.den)
  | box (cs:List C)
  | fa (h:Nat) (off:Nat)
  | tup (t:Ty) (x:t.den)
  | arr (t:Ty) (xs:List t.den) (hot:Bool)
  | ar (h:Nat) (k:Option Nat) (t:Ty)
  | ea (h:Nat) (k:Option Nat) (t:Ty) (i:Nat)
  | sit (xs:List UInt8) (pos:Nat)
  | nxt (b:Bool) (p c:Int)
abbrev St:=List S
def get (st:St) (i:Nat):S:=st.getD i .und
inductive Kind where
  | call
  | iter
  | take
  deriving DecidableEq
structure Spec where
  fn:Nat
  kind:Kind
  arg:Ty
  res:Ty
  multi:Bool
  own:Bool
  f:arg.den->Out res.den
def S.as (t:Ty):S->Option t.den
  | .d u x=>if h:u=t then some (h ▸ x) else none
  | .own u xs _=>if h:Ty.list u=t then some (h ▸ (xs:(Ty.list u).den)) else none
  | .al _ _ u xs=>if h:Ty.list u=t then some (h ▸ (xs:(Ty.list u).den)) else none
  | .nil=>match t with
    | .list e=>some ([]:List e.den)
    | _=>none
  | .ref u x=>if h:Ty.ptr u=t then some (h ▸ (x:(Ty.ptr u).den)) else none
  | _=>none
def nprod (t:Ty):Nat->Ty
  | 0=>.unit
  | n+1=>.prod t (nprod t n)
section
variable (P : Program)
def tysOf (f:TypeId->Option Ty):Nat->List Field->Option Ty
  | _,[]=>some .unit
  | off,x :: xs =>
    match f x.type with
    | none=>none
    | some t => if x.offset == off && x.name != "_" then (match tysOf f (off + t.size) xs with | some r => some (.prod t r) | none => none) else none
def descTy (f:TypeId->Option Ty):TypeDesc->Option Ty
  | .int k=>some (.int k)
  | .bool=>some .bool
  | .string=>some .str
  | .slice E=>(match f E with
    | some e=>(if e.size=0 then none else some (.list e))
    | none=>none)
  | .struct fs=>tysOf f 0 fs.toList
  | .array len E=>(match f E with
    | some e=>(if e.size=0 then none else some (nprod e len))
    | none=>none)
  | .func _ _ _=>some .raw
  | .map _ _=>some .opq
  | .pointer _=>some .opq
  | _=>none
def tyOf:Nat->TypeId->Option Ty
  | 0,_=>none
  | n+1,T =>
    match P.info? T,P.underlying T with
    | some i,some d=>(match descTy (tyOf n) d with
      | some t=>if i.size=t.size/\i.bytes<=1000/\(i.zero.map (·.cells.size))=some t.size then some t else none
      | none=>none)
    | _,_=>none
abbrev ty (T:TypeId):Option Ty:=tyOf P 9 T
end
def bit (t:Nat):Nat:=1 <<< t
def om:Operand->Nat
  | .tmp t=>bit t
  | _=>0
def oms (xs:List Operand):Nat:=xs.foldr (fun x m=>om x ||| m) 0
def ofCells:List Value->Option ((t:Ty)×t.den)
  | []=>some ⟨.unit,()⟩
  | v :: vs=>(match ofCells vs with
    | none=>none
    | some y=>(match v with
      | .int k n=>some ⟨.prod (.int k) y.1,(n,y.2)⟩
      | .string s=>some ⟨.prod .str y.1,(s.data.toList,y.2)⟩
      | .bool b=>some ⟨.prod .bool y.1,(b,y.2)⟩
      | _=>none))
def ofVal:Value->S
  | .bool b=>.d .bool b
  | .int k n=>.d (.int k) n
  | .string s=>.d .str s.data.toList
  | .slice none 0 0=>.nil
  | .nilFunc=>.d .raw Value.nilFunc
  | .nilIface=>.d .raw Value.nilIface
  | .agg cs=>(match ofCells cs.toList with
    | some y=>.d y.1 y.2
    | none=>.und)
  | _=>.und
def opnd (st:St):Operand->S
  | .tmp t=>get st t
  | .const v=>ofVal v
  | .func f=>.d .raw (.func (.func f) #[] #[])
  | .global _=>.und
def copyOf (x:Operand) (s:S):S :=
  match x,s with
  | .tmp h,.own t xs _=>.al h none t xs
  | .tmp h,.box _=>.fa h 0
  | .tmp h,.arr t _ _=>.ar h none t
  | .tmp _,.sit _ _=>.und
  | _,s=>s
def arrOf (st:St) (h:Nat) (k:Option Nat):Option ((t:Ty)×List t.den) :=
  match k with
  | none=>(match get st h with
    | .arr t xs false=>some ⟨t,xs⟩
    | _=>none)
  | some k=>(match get st h with
    | .box cs=>(match cs[k]? with
      | some (.arr t xs false)=>some ⟨t,xs⟩
      | _=>none)
    | _=>none)
def setArr (st:St) (h:Nat) (k:Option Nat) (t:Ty) (xs:List t.den):S :=
  match k with
  | none=>.arr t xs false
  | some k=>(match get st h with
    | .box cs=>.box (cs.set k (.arr t xs false))
    | s=>s)
def cellsOf:(t:Ty)->t.den->List C
  | .unit,_=>[]
  | .prod a b,x=>cellsOf a x.1++cellsOf b x.2
  | t,x=>[.d t x]
def cellsZ:Ty->List C
  | .unit=>[]
  | .prod a b=>cellsZ a++cellsZ b
  | .list e=>[.own e [] true]
  | t=>[.d t t.zero]
def zero1 (t:Ty) (v:Value):Bool :=
  match t with
  | .int k=>(match v with | .int k' n=>decide (k=k') && decide (n=0)|_=>false)
  | .bool=>(match v with | .bool b => !b|_=>false)
  | .str=>(match v with | .string s=>s.data.toList.isEmpty|_=>false)
  | .list _=>(match v with | .slice none 0 0=>true|_=>false)
  | .raw=>(match v with | .nilFunc=>true|_=>false)
  | .opq=>(match v with | .pointer none=>true | .map none=>true|_=>false)
  | _=>false
def zeroLeaf (t:Ty) (cs:List Value):Option (List Value) :=
  match cs with
  | v :: cs=>(match zero1 t v with|true=>some cs|false=>none)
  | []=>none
def zeroOk:(t:Ty)->List Value->Option (List Value)
  | .unit,cs=>some cs
  | .prod a b,cs=>(match zeroOk a cs with|some cs=>zeroOk b cs|none=>none)
  | t,cs=>zeroLeaf t cs
def isZero (P:Program) (T:TypeId) (t:Ty):Bool :=
  match P.info? T with
  | some i=>(match i.zero with
    | some z=>(match zeroOk t z.cells.toList with|some []=>(match z with | .agg _=>t.agg|_ => !t.agg)|_=>false)
    | none=>false)
  | none=>false
def gath:(t:Ty)->List C->Option (t.den×List C)
  | .unit,cs=>some ((),cs)
  | .prod a b,cs=>(match gath a cs with
    | some (x,cs)=>(match gath b cs with
      | some (y,cs)=>some ((x,y),cs)
      | none=>none)
    | none=>none)
  | .list e,.own u xs _ :: cs=>if h:u=e then some (h ▸ xs,cs) else none
  | .opq,.d u _ :: cs=>if u = .opq\/u = .raw then some ((),cs) else none
  | t,.d u x :: cs=>if h:u=t then some (h ▸ x,cs) else none
  | _,_=>none
def projF:(t:Ty)->t.den->Nat->Option ((u:Ty)×u.den)
  | .prod a _,x,0=>some ⟨a,x.1⟩
  | .prod _ b,x,n+1=>projF b x.2 n
  | _,_,_=>none
def setF:(t:Ty)->t.den->Nat->S->Option t.den
  | .prod a _,x,0,s=>(match s.as a with|some y=>some (y,x.2)|none=>none)
  | .prod _ b,x,n+1,s=>(match setF b x.2 n s with|some y=>some (x.1,y)|none=>none)
  | _,_,_,_=>none
def setFs (t:Ty) (st:St):List (Nat×Operand)->t.den->Option t.den
  | [],x=>some x
  | (i,o) :: ps,x=>(match setF t x i (opnd st o) with|some y=>setFs t st ps y|none=>none)
def place (x:Operand) (s:S):Option (Nat×Nat) :=
  match x,s with
  | .tmp h,.box _=>some (h,0)
  | _,.fa h off=>some (h,off)
  | _,_=>none
def inb (n:Int) (len:Nat):Bool:=decide (0<=n) && decide (n<len)
def packArgs:(t:Ty)->List S->Option t.den
  | .unit,[]=>some ()
  | .prod a b,s :: ss=>(match s.as a with
    | some x=>(match packArgs b ss with
      | some y=>some (x,y)
      | none=>none)
    | none=>none)
  | _,_=>none
def dS (t:Ty) (x:t.den):S :=
  match t,x with
  | .ptr u,x=>.ref u x
  | t,x=>.d t x
def argS:(t:Ty)->t.den->List S
  | .prod a b,x=>dS a x.1 :: argS b x.2
  | _,_=>[]
def mkRes (multi own:Bool) (t:Ty) (x:t.den):S :=
  match multi with
  | true=>(match own with
    | true=>(match t,x with
      | .list e,xs=>.arr e xs true
      | t,x=>.tup t x)
    | false=>.tup t x)
  | false=>match own with
    | true=>match t,x with
      | .list e,xs=>.own e xs true
      | t,x=>.d t x
    | false=>.d t x
def valOf:(t:Ty)->t.den->Option (List Value)
  | .int k,x=>some [.int k x]
  | .bool,x=>some [.bool x]
  | .str,x=>some [.string ⟨⟨x⟩⟩]
  | .unit,_=>some []
  | .prod a b,x=>(match valOf a x.1 with
    | some c1=>(match valOf b x.2 with
      | some c2=>some (c1++c2)
      | none=>none)
    | none=>none)
  | _,_=>none
def rawOf:S->Option Value
  | .d t x=>(match valOf t x with|some cs=>some (toVal t cs)|none=>none)
  | _=>none
inductive Pre where
  | bad
  | eff (c:Bool) (rd:Nat) (wr:List (Nat×S))
  | cse (i:Int) (n:Nat) (rd:Nat) (wr:Nat->List (Nat×S))
  | call (sp:Spec) (x:sp.arg.den) (rd:Nat)
  | pan (p:Value) (rd:Nat)
def findSpec (g:Nat) (ss:List S) (rd:Nat):List Spec->Pre
  | []=>.bad
  | sp :: sps=>if sp.fn=g/\sp.kind = .call then (match packArgs sp.arg ss with|some x=>.call sp x rd|none=>findSpec g ss rd sps) else findSpec g ss rd sps
def allOne:Ty->Bool
  | .unit=>true
  | .prod a b => !a.agg && allOne b
  | _=>false
def firstS (t:Ty) (x:t.den):List S:=match t.isUnit with|true=>[]|false=>[dS t x]
def cmpInt (op:BinOp) (a b:Int):Option Bool :=
  match op with
  | .eql=>some (a==b)
  | .neq=>some (a != b)
  | .lss=>some (decide (a<b))
  | .leq=>some (decide (a<=b))
  | .gtr=>some (decide (a > b))
  | .geq=>some (decide (a >= b))
  | _=>none
def put1 (dst:List Nat) (c:Bool) (rd:Nat) (s:S):Pre:=.eff c rd (dst.map (·,s))
def preBinInt (dst:List Nat) (rd:Nat) (op:BinOp) (k:IntKind) (a:Int) (k':IntKind) (b:Int):Pre :=
  match op with
  | .shl=>put1 dst (decide (0<=b)) rd (.d (.int k) (k.wrap (a * 2 ^ (min b.toNat k.bits))))
  | .shr=>put1 dst (decide (0<=b)) rd (.d (.int k) (a.fdiv (2 ^ (min b.toNat k.bits))))
  | op=>if k=k' then
      (match op with
       | .add=>put1 dst true rd (.d (.int k) (k.wrap (a+b)))
       | .sub=>put1 dst true rd (.d (.int k) (k.wrap (a - b)))
       | .mul=>put1 dst true rd (.d (.int k) (k.wrap (a * b)))
       | .quo=>put1 dst (b != 0) rd (.d (.int k) (k.wrap (a.tdiv b)))
       | .rem=>put1 dst (b != 0) rd (.d (.int k) (a.tmod b))
       | op=>(match cmpInt op a b with|some c=>put1 dst true rd (.d .bool c)|none=>.bad))
     else .bad
def preBinStr (dst:List Nat) (rd:Nat) (op:BinOp) (a b:List UInt8):Pre :=
  match op with
  | .add=>put1 dst (decide (a.length+b.length<1000000)) rd (.d .str (a++b))
  | .eql=>put1 dst true rd (.d .bool (a==b))
  | .neq=>put1 dst true rd (.d .bool (a != b))
  | _=>.bad
def preBinBool (P:Program) (dst:List Nat) (rd:Nat) (op:BinOp) (T:TypeId) (a b:Bool):Pre :=
  match P.underlying T with
  | some .bool=>(match op with
    | .eql=>put1 dst true rd (.d .bool (a==b))
    | .neq=>put1 dst true rd (.d .bool (a != b))
    | _=>.bad)
  | _=>.bad
def eqI (x y:Int):Bool:=x==y
def eqBo (x y:Bool):Bool:=x==y
def eqS (x y:List UInt8):Bool:=x==y
def eq1:(t:Ty)->t.den->t.den->Option Bool
  | .int _,x,y=>some (eqI x y)
  | .bool,x,y=>some (eqBo x y)
  | .str,x,y=>some (eqS x y)
  | _,_,_=>none
def eqTy:(t:Ty)->t.den->t.den->Option Bool
  | .unit,_,_=>some true
  | .prod a b,x,y=>(match eq1 a x.1 y.1 with
    | some p=>(match eqTy b x.2 y.2 with
      | some q=>some (p && q)
      | none=>none)
    | none=>none)
  | _,_,_=>none
def neB (b:Bool):Bool := !b
def preBinAgg (P:Program) (dst:List Nat) (rd:Nat) (op:BinOp) (T:TypeId) (t:Ty) (a b:t.den):Pre :=
  match P.underlying T with
  | some (.struct _)=>if ty P T=some t/\P.stoodInHeld T=false/\P.eqGuardType P.depth T=false then
      (match eqTy t a b with
       | some c=>(match op with
         | .eql=>put1 dst true rd (.d .bool c)
         | .neq=>put1 dst true rd (.d .bool (neB c))
         | _=>.bad)
       | none=>.bad) else .bad
  | _=>.bad
def preBin (P:Program) (dst:List Nat) (rd:Nat) (op:BinOp) (T:TypeId) (x y:S):Pre :=
  match x,y with
  | .d (.int k) a,.d (.int k') b=>preBinInt dst rd op k a k' b
  | .d .str a,.d .str b=>preBinStr dst rd op a b
  | .d .bool a,.d .bool b=>preBinBool P dst rd op T a b
  | .d (.prod p q) a,.d (.prod p' q') b=>if h:Ty.prod p' q'=Ty.prod p q then preBinAgg P dst rd op T (.prod p q) a (h ▸ b) else .bad
  | _,_=>.bad
def negInt (k:IntKind) (n:Int):Int:=k.wrap (0 - n)
def cloLoad (t:Ty) (cs:List C) (f:S->Pre):Pre :=
  match t with
  | .raw=>(match cs with
    | .d (.clo g p q) y :: _=>f (.d (.clo g p q) y)
    | _=>.bad)
  | _=>.bad
def cloBox (t:Ty) (s:S) (f:S->Pre):Pre :=
  match t with
  | .raw=>(match s with
    | .d (.clo g p q) y=>f (.box [.d (.clo g p q) y])
    | _=>.bad)
  | _=>.bad
def notB (b:Bool):Bool := !b
def preUn (dst:List Nat) (rd:Nat) (op:UnOp) (x:S):Pre :=
  match op,x with
  | .not,.d .bool b=>put1 dst true rd (.d .bool (notB b))
  | .neg,.d (.int k) n=>put1 dst true rd (.d (.int k) (negInt k n))
  | _,_=>.bad
def wrapI (k:IntKind) (n:Int):Int:=k.wrap n
def toBytes (xs:List Int):List UInt8:=xs.map fun n=>UInt8.ofNat n.toNat
def preConv (P:Program) (dst:List Nat) (rd:Nat) (s t:TypeId) (x:S):Pre :=
  match P.underlying s,P.underlying t with
  | some (.int _),some (.int k)=>(match x with
    | .d (.int _) n=>put1 dst true rd (.d (.int k) (wrapI k n))
    | _=>.bad)
  | some .string,some .string=>(match x with
    | .d .str b=>put1 dst true rd (.d .str b)
    | _=>.bad)
  | some (.slice E),some .string=>(match P.underlying E with
    | some (.int .u8)=>(match x.as (.list (.int .u8)) with
      | some xs=>put1 dst true rd (.d .str (toBytes xs))
      | none=>.bad)
    | _=>.bad)
  | _,_=>.bad
def idxOf:S->Option Int
  | .d (.int _) n=>some n
  | _=>none
def bnd (st:St) (d:Int):Option Operand->Option Int
  | none=>some d
  | some o=>idxOf (opnd st o)
def cutOk (l h len:Int):Bool:=decide (0<=l) && decide (l<=h) && decide (h<=len)
def cut {α:Type} (xs:List α) (l h:Int):List α:=(xs.drop l.toNat).take (h.toNat - l.toNat)
def lenI {α:Type} (xs:List α):Int:=xs.length
def preSliceStr (dst:List Nat) (rd:Nat) (xs:List UInt8) (st:St) (lo hi:Option Operand):Pre :=
  match bnd st 0 lo,bnd st (lenI xs) hi with
  | some l,some h=>put1 dst (cutOk l h (lenI xs)) rd (.d .str (cut xs l h))
  | _,_=>.bad
def preSliceList (dst:List Nat) (rd:Nat) (e:Ty) (xs:List e.den) (st:St) (lo hi:Option Operand):Pre :=
  match bnd st 0 lo,bnd st (lenI xs) hi with
  | some l,some h=>put1 dst (cutOk l h (lenI xs)) rd (.d (.list e) (cut xs l h))
  | _,_=>.bad
def listOfN (e:Ty):(n:Nat)->(nprod e n).den->List e.den
  | 0,_=>[]
  | n+1,x=>x.1 :: listOfN e n x.2
def preSlice (P:Program) (dst:List Nat) (rd:Nat) (T:TypeId) (x:S) (st:St) (lo hi mx:Option Operand):Pre :=
  match mx with
  | some _=>.bad
  | none =>
    match P.underlying T with
    | some .string=>(match x with
      | .d .str xs=>preSliceStr dst rd xs st lo hi
      | _=>.bad)
    | some (.slice _)=>(match ty P T with
      | some (.list e)=>(match x.as (.list e) with
        | some xs=>preSliceList dst rd e xs st lo hi
        | none=>.bad)
      | _=>.bad)
    | some (.array len E)=>(match lo,hi with
      | none,none=>(match ty P E with
        | some e=>(match x.as (.ptr (nprod e len)) with
          | some y=>put1 dst true rd (.d (.list e) (listOfN e len y))
          | none=>.bad)
        | none=>.bad)
      | _,_=>.bad)
    | _=>.bad
def fits {α:Type} (xs ys:List α):Bool:=decide (xs.length+ys.length<1000000)
def preApp (mk:Bool) (dst:List Nat) (st:St) (rd:Nat) (e:Ty) (x:Operand) (ys:List e.den):Pre :=
  match opnd st x with
  | .nil=>(match mk with
    | true=>put1 dst (fits [] ys) rd (.arr e ys true)
    | false=>put1 dst (fits [] ys) rd (.own e ys true))
  | .own u xs _=>if h:u=e then (match x with
      | .tmp hm=>.eff (fits (h ▸ xs) ys) rd ((hm,.d (.list u) xs) :: dst.map (·,.own e ((h ▸ xs:List e.den)++ys) true))
      | _=>.bad) else .bad
  | .al hm none u xs=>if h:u=e then (match get st hm with
      | .own u' _ false=>if u'=u then .eff (fits (h ▸ xs) ys) (rd ||| bit hm) ((hm,.d (.list u) xs) :: dst.map (·,.own e ((h ▸ xs:List e.den)++ys) true)) else .bad
      | _=>.bad) else .bad
  | .al hm (some k) u xs=>if h:u=e then (match get st hm with
      | .box cs=>(match cs[k]? with
        | some (.own u' _ false)=>if u'=u then .eff (fits (h ▸ xs) ys) (rd ||| bit hm) ((hm,.box (cs.set k (.d (.list u) xs))) :: dst.map (·,.own e ((h ▸ xs:List e.den)++ys) true)) else .bad
        | _=>.bad)
      | _=>.bad) else .bad
  | _=>.bad
def preAppend (P:Program) (mk:Bool) (dst:List Nat) (st:St) (rd:Nat) (T:TypeId) (x:Operand) (y:Operand):Pre :=
  match ty P T with
  | some (.list e)=>(match (opnd st y).as (.list e) with
    | some ys=>preApp mk dst st rd e x ys
    | none=>.bad)
  | _=>.bad
def preLen (P:Program) (dst:List Nat) (st:St) (rd:Nat) (T:TypeId) (x:S):Pre :=
  match P.underlying T with
  | some .string=>(match x with
    | .d .str xs=>put1 dst true rd (.d (.int .i64) (lenI (α:=UInt8) xs))
    | _=>.bad)
  | some (.slice _)=>(match x with
    | .d (.list e) xs=>put1 dst true rd (.d (.int .i64) (lenI (α:=e.den) xs))
    | .own _ xs _=>put1 dst true rd (.d (.int .i64) (lenI xs))
    | .al _ _ _ xs=>put1 dst true rd (.d (.int .i64) (lenI xs))
    | .nil=>put1 dst true rd (.d (.int .i64) (0:Int))
    | .ar h k t=>(match arrOf st h k with
      | some y=>if y.1=t then put1 dst true rd (.d (.int .i64) (lenI y.2)) else .bad
      | none=>.bad)
    | _=>.bad)
  | _=>.bad
def preMinMax (mx:Bool) (dst:List Nat) (rd:Nat) (k:IntKind) (a:Int) (k':IntKind) (b:Int):Pre :=
  if k=k' then put1 dst true rd (.d (.int k) (match mx with|true=>(if b > a then b else a)|false=>(if b<a then b else a))) else .bad
def preBuiltin (P:Program) (mk:Bool) (dst:List Nat) (st:St) (rd:Nat) (b:Builtin) (Ts:List TypeId) (args:List Operand):Pre :=
  match b,Ts,args with
  | .len,T :: _,[x]=>preLen P dst st rd T (opnd st x)
  | .append,[T,T'],[x,y]=>if T=T' then preAppend P mk dst st rd T x y else .bad
  | .min,_,[x,y]=>(match opnd st x,opnd st y with
    | .d (.int k) a,.d (.int k') b=>preMinMax false dst rd k a k' b
    | _,_=>.bad)
  | .max,_,[x,y]=>(match opnd st x,opnd st y with
    | .d (.int k) a,.d (.int k') b=>preMinMax true dst rd k a k' b
    | _,_=>.bad)
  | _,_,_=>.bad
def marked (Φ:Nat->List Spec) (dst:List Nat):Bool :=
  match dst with
  | [d]=>(match Φ (1000000+d) with
    | []=>false
    | _=>true)
  | _=>false
def enters (P:Program) (g:Nat):Bool :=
  match P.funcs[g]? with
  | some fn => !(fn.name == "runtime.NumGoroutine" || fn.body.isNone)
  | none=>false
def methodOf (P:Program) (T:TypeId) (name:String):Option Nat :=
  match P.info? T with
  | some i=>(match i.methods.find? (·.name==name) with
    | some m=>(match m.path.toList,m.func with
      | [],some (f,false)=>(match P.underlying T with
        | some (.pointer _)=>none
        | some _=>some f
        | none=>none)
      | _,_=>none)
    | none=>none)
  | none=>none
def preClo (P:Program) (Φ:Nat->List Spec) (st:St) (rd:Nat) (g:Nat) (a b:Ty) (x:(Ty.clo g a b).den) (args:List Operand):Pre :=
  match enters P g && allOne b with
  | true=>findSpec g (firstS a x.1++args.map (opnd st)++argS b x.2) rd (Φ g)
  | false=>.bad
def preInvoke (P:Program) (Φ:Nat->List Spec) (st:St) (rd:Nat) (name:String) (s:S) (args:List Operand):Pre :=
  match s with
  | .d (.dyn T t) v=>(match methodOf P T name with
    | some f=>(match enters P f with
      | true=>findSpec f (dS t v :: args.map (opnd st)) rd (Φ f)
      | false=>.bad)
    | none=>.bad)
  | _=>.bad
def preCall (P:Program) (Φ:Nat->List Spec) (dst:List Nat) (st:St) (c:Call):Pre :=
  match c.callee with
  | .builtin b=>preBuiltin P (marked Φ dst) dst st (oms c.args.toList) b c.argTypes.toList c.args.toList
  | .value f =>
    (match opnd st f with
     | .d .raw v=>(match (v:Value) with
      | .func (.func g) first captured=>if captured.size=0 then
         (match P.funcs[g]? with
          | some fn => if fn.name == "runtime.NumGoroutine" || fn.body.isNone then .bad
            else findSpec g (first.toList.map ofVal++c.args.toList.map (opnd st)) (om f ||| oms c.args.toList) (Φ g)
          | none=>.bad)
       else .bad
      | _=>.bad)
     | .d (.clo g a b) x=>preClo P Φ st (om f ||| oms c.args.toList) g a b x c.args.toList
     | _=>.bad)
  | .invoke r name=>preInvoke P Φ st (om r ||| oms c.args.toList) name (opnd st r) c.args.toList
def capS (st:St):List Operand->Option ((t:Ty)×t.den)
  | []=>some ⟨.unit,()⟩
  | o :: os=>(match opnd st o with
    | .ref t x=>(match capS st os with
      | some y=>some ⟨.prod (.ptr t) y.1,(x,y.2)⟩
      | none=>none)
    | _=>none)
def dataS:S->Option ((t:Ty)×t.den)
  | .d t x=>(match t.isUnit with
    | true=>none
    | false=>some ⟨t,x⟩)
  | _=>none
def preMake (st:St) (dst:List Nat) (rd:Nat) (g:Nat) (firsts captured:List Operand):Pre :=
  match firsts,captured with
  | [],[]=>.bad
  | [],cs=>(match capS st cs with
    | some y=>put1 dst true rd (.d (.clo g .unit y.1) ((),y.2))
    | none=>.bad)
  | [f],[]=>(match dataS (opnd st f) with
    | some y=>put1 dst true rd (.d (.clo g y.1 .unit) (y.2,()))
    | none=>.bad)
  | _,_=>.bad
def runeAt (xs:List UInt8) (pos:Nat):Int:=((Utf8.decode ⟨⟨xs⟩⟩ pos).1:Int)
def posAt (xs:List UInt8) (pos:Nat):Nat:=bif decide (pos<xs.length) then pos+(Utf8.decode ⟨⟨xs⟩⟩ pos).2 else pos
def natI (n:Nat):Int:=n
def preRange (P:Program) (dst:List Nat) (rd:Nat) (T:TypeId) (s:S):Pre :=
  match P.underlying T with
  | some .string=>(match s with
    | .d .str xs=>put1 dst true rd (.sit xs 0)
    | _=>.bad)
  | _=>.bad
def preNext (dst:List Nat) (rd:Nat) (x:Operand) (s:S):Pre :=
  match x,s with
  | .tmp h,.sit xs pos=>(match dst with
    | [d]=>if d=h then .bad else .eff true rd [(h,.sit xs (posAt xs pos)),(d,.nxt (decide (pos<List.length (α:=UInt8) xs)) (natI pos) (runeAt xs pos))]
    | _=>.bad)
  | _,_=>.bad
def preAssert (P:Program) (dst:List Nat) (rd:Nat) (aT:TypeId) (s:S):Pre :=
  match s with
  | .d (.dyn T t) v=>(match P.underlying aT with
    | some (.interface _)=>.bad
    | some _=>if T=aT then put1 dst true rd (.tup (.prod t (.prod .bool .unit)) (v,true,()))
       else (match ty P aT with
        | some u=>if isZero P aT u then put1 dst true rd (.tup (.prod u (.prod .bool .unit)) (u.zero,false,())) else .bad
        | none=>.bad)
    | none=>.bad)
  | _=>.bad
def sameTmp:Operand->Operand->Bool
  | .tmp i,.tmp j=>i==j
  | _,_=>false
def mayMake (n:Int):Bool:=decide (0<=n) && decide (n<=10000)
def zeros (e:Ty) (n:Int):List e.den:=List.replicate n.toNat e.zero
def preMakeSlice (P:Program) (dst:List Nat) (rd:Nat) (T:TypeId) (n c:Operand) (s:S):Pre :=
  match sameTmp n c with
  | true=>(match P.underlying T with
    | some (.slice E)=>(match ty P T with
      | some (.list e)=>if isZero P E e then (match s with
          | .d (.int .i64) m=>put1 dst (mayMake m) rd (.arr e (zeros e m) true)
          | _=>.bad) else .bad
      | _=>.bad)
    | _=>.bad)
  | false=>.bad
def byteAt (xs:List UInt8) (n:Int):Int:=((xs.getD n.toNat 0).toNat:Int)
def vpre (P:Program) (Φ:Nat->List Spec) (o:Oper) (st:St):Pre :=
  let dst:=o.dst.toList
  let put (c:Bool) (rd:Nat) (s:S):Pre:=.eff c rd (dst.map (·,s))
  match o.op with
  | .move x=>put true (om x) (copyOf x (opnd st x))
  | .assign x =>
    (match opnd st x with
     | .own t xs _=>(match x with
       | .tmp h=>.eff true (om x) ((h,.d (.list t) xs) :: dst.map (·,.own t xs true))
       | _=>.bad)
     | .al h none t xs=>(match get st h with
       | .own u _ false=>if u=t then .eff true (om x ||| bit h) ((h,.d (.list t) xs) :: dst.map (·,.own t xs true)) else .bad
       | _=>put true (om x ||| bit h) (.d (.list t) xs))
     | .al _ (some _) t xs=>put true (om x) (.d (.list t) xs)
     | .nil=>(match ty P o.type with
       | some (.list e)=>put true (om x) (.own e [] true)
       | _=>put true (om x) .nil)
     | .box _=>.bad
     | .arr t xs _=>(match x with
       | .tmp h=>.eff true (om x) ((h,.und) :: dst.map (·,.arr t xs true))
       | _=>.bad)
     | .ar h none t=>(match get st h with
       | .arr u xs false=>if u=t then .eff true (om x ||| bit h) ((h,.und) :: dst.map (·,.own u xs true)) else .bad
       | _=>.bad)
     | .ar _ _ _=>.bad
     | .ea _ _ _ _=>.bad
     | .sit _ _=>.bad
     | s=>put true (om x) s)
  | .pick c a b =>
    (match opnd st c with
     | .d .bool v=>(match opnd st a,opnd st b with
       | .d t x,.d u y=>if h:u=t then put true (om c ||| om a ||| om b) (.d t (bif v then x else h ▸ y)) else .bad
       | .d t x,_=>.eff v (om c ||| om a ||| om b) (dst.map (·,.d t x))
       | _,.d t x=>.eff (notB v) (om c ||| om a ||| om b) (dst.map (·,.d t x))
       | _,_=>.bad)
     | _=>.bad)
  | .alloc T=>(match ty P T with
    | some t=>if isZero P T t then put true 0 (.box (cellsZ t)) else .bad
    | none=>.bad)
  | .box T x=>(match ty P T with
    | some t=>(match opnd st x with
      | .nil=>(match t with
        | .list e=>put true (om x) (.box [.own e [] true])
        | _=>.bad)
      | s=>(match s.as t with
        | some v=>put true (om x) (.box (cellsOf t v))
        | none=>cloBox t s (put true (om x))))
    | none=>.bad)
  | .load T a =>
    (match opnd st a with
     | .ref t x=>if ty P T=some t then put true (om a) (.d t x) else (match t,x with
       | .raw,v=>(match ty P T with
         | some (.list _)=>put true (om a) (.d .raw v)
         | some .opq=>put true (om a) (.d .raw v)
         | _=>.bad)
       | _,_=>.bad)
     | .ea h k u i=>if ty P T=some u then (match arrOf st h k with
       | some y=>if y.1=u then put (decide (i<y.2.length)) (om a ||| bit h) (.d y.1 (y.2.getD i y.1.zero)) else .bad
       | none=>.bad) else .bad
     | s=>(match place a s with
       | some (h,off)=>(match get st h with
         | .box cs=>(match ty P T with
           | some t=>(match t,cs[off]? with
             | .list e,some (.own u xs _)=>if e=u then put true (om a ||| bit h) (.al h (some off) u xs) else .bad
             | .list e,some (.arr u xs _)=>if e=u then put true (om a ||| bit h) (.ar h (some off) u) else .bad
             | t,_=>(match gath t (cs.drop off) with
               | some (x,_)=>put true (om a ||| bit h) (.d t x)
               | none=>cloLoad t (cs.drop off) (put true (om a ||| bit h))))
           | none=>.bad)
         | _=>.bad)
       | none=>.bad))
  | .store T a x=>(match opnd st a with
    | .ea h k u i=>(match dst with
      | []=>if ty P T=some u then (match arrOf st h k with
        | some y=>if hu:y.1=u then (match (opnd st x).as y.1 with
          | some v=>.eff (decide (i<y.2.length)) (om a ||| om x ||| bit h) [(h,setArr st h k y.1 (y.2.set i v))]
          | none=>.bad) else .bad
        | none=>.bad) else .bad
      | _=>.bad)
    | _ =>
    (match dst,place a (opnd st a) with
     | [],some (h,off)=>(match get st h with
       | .box cs=>(match ty P T with
         | some t =>
           (match t,opnd st x with
            | .list e,.nil=>if off<cs.length then .eff true (om a ||| om x ||| bit h) [(h,.box (cs.set off (.own e [] true)))] else .bad
            | .list e,.own u xs _=>(match x with
              | .tmp h'=>if e=u/\h'≠h/\off<cs.length then .eff true (om a ||| om x ||| bit h) [(h',.d (.list u) xs),(h,.box (cs.set off (.own u xs true)))] else .bad
              | _=>.bad)
            | .list e,.arr u xs _=>(match x with
              | .tmp h'=>if e=u/\h'≠h/\off<cs.length then .eff true (om a ||| om x ||| bit h) [(h',.und),(h,.box (cs.set off (.arr u xs true)))] else .bad
              | _=>.bad)
            | .list e,.al h' none u xs=>(match get st h' with
              | .own u' _ false=>if e=u/\u'=u/\h'≠h/\off<cs.length then .eff true (om a ||| om x ||| bit h ||| bit h') [(h',.d (.list u) xs),(h,.box (cs.set off (.own u xs true)))] else .bad
              | _=>if e=u/\off<cs.length then .eff true (om a ||| om x ||| bit h ||| bit h') [(h,.box (cs.set off (.d (.list u) xs)))] else .bad)
            | t,s=>(match s.as t with
              | some v=>if off+t.size<=cs.length then .eff true (om a ||| om x ||| bit h) [(h,.box (cs.take off++cellsOf t v++cs.drop (off+t.size)))] else .bad
              | none=>.bad))
         | none=>.bad)
       | _=>.bad)
     | _,_=>.bad))
  | .fieldAddr T a f =>
    (match P.underlying T with
     | some (.struct fs)=>(match fs[f]? with
       | some fld=>if P.cellsOf fld.type=0 then .bad else
         (match opnd st a with
          | .ref t x=>if ty P T=some t then (match projF t x f with
              | some ⟨u,y⟩=>put true (om a) (.ref u y)
              | none=>.bad) else .bad
          | s=>(match place a s with
            | some (h,off)=>put true (om a) (.fa h (off+fld.offset))
            | none=>.bad))
       | none=>.bad)
     | _=>.bad)
  | .indexAddr T x i=>(match P.underlying T with
    | some (.slice _)=>(match ty P T with
      | some (.list e)=>(match opnd st x with
       | .ar h k t=>(match arrOf st h k,idxOf (opnd st i) with
        | some y,some n=>if y.1=t/\e=t then put (inb n y.2.length) (om x ||| om i ||| bit h) (.ea h k t n.toNat) else .bad
        | _,_=>.bad)
       | _=>(match (opnd st x).as (.list e),idxOf (opnd st i) with
        | some xs,some n=>put (inb n (List.length (α:=e.den) xs)) (om x ||| om i) (.ref e (List.getD (α:=e.den) xs n.toNat e.zero))
        | _,_=>.bad))
      | _=>.bad)
    | some (.array len E)=>(match ty P E,place x (opnd st x),idxOf (opnd st i) with
      | some e,some (h,off),some n=>.cse n len (om x ||| om i) (fun j=>dst.map (·,.fa h (off+j * e.size)))
      | _,_,_=>.bad)
    | _=>.bad)
  | .index T x i =>
    (match P.underlying T with
     | some .string=>(match opnd st x,idxOf (opnd st i) with
       | .d .str xs,some n=>put (inb n (List.length (α:=UInt8) xs)) (om x ||| om i) (.d (.int .u8) (byteAt xs n))
       | _,_=>.bad)
     | some (.array len _)=>(match ty P T with
       | some t=>(match (opnd st x).as t,idxOf (opnd st i) with
         | some v,some n=>.cse n len (om x ||| om i) (fun j=>match projF t v j with|some ⟨u,y⟩=>dst.map (·,.d u y)|none=>[])
         | _,_=>.bad)
       | none=>.bad)
     | _=>.bad)
  | .field T x f=>(match P.underlying T with
    | some (.struct _)=>(match ty P T with
      | some t=>(match (opnd st x).as t with
        | some v=>(match projF t v f with
          | some ⟨u,y⟩=>put true (om x) (.d u y)
          | none=>.bad)
        | none=>.bad)
      | none=>.bad)
    | _=>.bad)
  | .build T ps=>(match ty P T with
    | some t=>if t.agg && isZero P T t then (match setFs t st ps.toList t.zero with
      | some v=>put true (oms (ps.toList.map (·.2))) (.d t v)
      | none=>.bad) else .bad
    | none=>.bad)
  | .buildSlice T n ps=>(match ty P T with
    | some (.list e)=>if n=ps.size/\n * e.size<=10000/\ps.toList.map (·.1)=List.range n then (match ps.toList.mapM (fun p=>(opnd st p.2).as e) with
      | some xs=>put true (oms (ps.toList.map (·.2))) (.own e xs true)
      | none=>.bad) else .bad
    | _=>.bad)
  | .binOp op T x y _=>preBin P dst (om x ||| om y) op T (opnd st x) (opnd st y)
  | .unOp op _ x=>preUn dst (om x) op (opnd st x)
  | .convert s t x=>preConv P dst (om x) s t (opnd st x)
  | .makeInterface T x=>(match P.underlying T with
    | some (.interface _)=>.bad
    | _=>(match ty P T with
      | some t=>(match (opnd st x).as t with
        | some v=>put true (om x) (.d (.dyn T t) v)
        | none=>.bad)
      | none=>.bad))
  | .makeMap _ none=>put true 0 (.d .opq ())
  | .makeFunc fn firsts captured=>(match fn with
    | .func g=>(match captured.toList with
      | []=>(match firsts.toList.mapM (fun x=>rawOf (opnd st x)) with
        | some vs=>put true (oms firsts.toList) (.d .raw (Value.func (.func g) vs.toArray #[]))
        | none=>preMake st dst (oms firsts.toList) g firsts.toList [])
      | cs=>preMake st dst (oms firsts.toList ||| oms cs) g firsts.toList cs)
    | _=>.bad)
  | .slice T x lo hi mx=>preSlice P dst (om x ||| oms lo.toList ||| oms hi.toList) T (opnd st x) st lo hi mx
  | .extract t i=>(match opnd st t with
    | .tup u x=>(match projF u x i with
      | some ⟨v,y⟩=>put true (om t) (.d v y)
      | none=>.bad)
    | .nxt b p c=>(match i with
      | 0=>put true (om t) (.d .bool b)
      | 1=>put b (om t) (.d (.int .i64) p)
      | 2=>put b (om t) (.d (.int .i32) c)
      | _=>.bad)
    | _=>.bad)
  | .range T x=>preRange P dst (om x) T (opnd st x)
  | .next x isS=>(match isS with
    | true=>preNext dst (om x) x (opnd st x)
    | false=>.bad)
  | .typeAssert x _ aT ok=>(match ok with
    | true=>preAssert P dst (om x) aT (opnd st x)
    | false=>.bad)
  | .makeSlice T n c=>preMakeSlice P dst (om n ||| om c) T n c (opnd st n)
  | .nilCheck x=>(match opnd st x with
    | .d .raw v=>(match (v:Value) with
      | .func (.func f) fs cs=>put true (om x) (.d .raw (Value.func (.func f) fs cs))
      | _=>.bad)
    | _=>.bad)
  | .panic x=>(match opnd st x with
    | .d (.dyn T t) v=>(match valOf t v with
      | some cs=>.pan (.iface T (toVal t cs)) (om x)
      | none=>.bad)
    | _=>.bad)
  | .call c=>preCall P Φ dst st c
  | _=>.bad
def app (wr:List (Nat×S)) (st:St):St:=wr.foldl (fun st p=>st.set p.1 p.2) st
def wmask (wr:List (Nat×S)):Nat:=wr.foldl (fun m p=>m ||| bit p.1) 0
def dropC:C->C
  | .own t xs _=>.own t xs false
  | .arr t xs _=>.arr t xs false
  | c=>c
def dropS:S->S
  | .own t xs _=>.own t xs false
  | .al _ _ t xs=>.d (.list t) xs
  | .fa _ _=>.und
  | .ar _ _ _=>.und
  | .ea _ _ _ _=>.und
  | .arr t xs _=>.arr t xs false
  | .box cs=>.box (cs.map dropC)
  | s=>s
def frzC:C->C
  | .arr t xs _=>.d (.list t) xs
  | c=>c
def frzS:S->S
  | .arr t xs _=>.own t xs true
  | .box cs=>.box (cs.map frzC)
  | s=>s
def frzAll:List Nat->St->St
  | [],st=>st
  | i :: l,st=>frzAll l (st.set i (frzS (get st i)))
def frzB (P:Program) (T:TypeId) (s:S):S :=
  match s with
  | .box cs=>(match ty P T with
    | some t=>(match gath t cs with
      | some (x,[])=>.ref t x
      | _=>s)
    | none=>s)
  | s=>s
def frzBs (P:Program):List Nat->St->St
  | i :: T :: l,st=>frzBs P l (st.set i (frzB P T (get st i)))
  | _,st=>st
def hintOf (hints:List (Nat×List Nat)) (id:Nat):List Nat :=
  match hints.find? (fun h=>h.1==id) with
  | some h=>h.2
  | none=>[]
def frz (P:Program) (hints:List (Nat×List Nat)) (id:Nat) (st:St):St :=
  frzBs P (hintOf hints (4000000+id)) (frzAll (hintOf hints (3000000+id)) st)
inductive X where
  | normal
  | exit (id:Nat)
  | ret
section
variable {ρ : Type} (P : Program) (Φ : Nat → List Spec)
def isBox:S->Bool
  | .box _=>true
  | _=>false
def caseOn (i:Int) (f:Nat->Out ρ):Nat->Nat->Out ρ
  | 0,_=>.fail
  | n+1,j=>bif i==(j:Int) then f j else caseOn i f n (j+1)
def wrRes (o:Oper) (sp:Spec) (r:sp.res.den):List (Nat×S):=o.dst.toList.map (·,mkRes sp.multi sp.own sp.res r)
def runPre (kp:Nat->Value->Out ρ) (o:Oper) (g:Nat) (k:Nat×Nat->St->Out ρ) (st:St) (p:Pre):Out ρ :=
  match p with
  | .bad=>.fail
  | .eff c _ wr=>bif c then k (g,wmask wr) (app wr st) else .fail
  | .cse i n _ wr=>caseOn i (fun j=>k (g,wmask (wr j)) (app (wr j) st)) n 0
  | .call sp x _=>(match sp.f x with
    | .ret r=>k (g,wmask (wrRes o sp r)) (app (wrRes o sp r) st)
    | .pan p=>kp g p
    | .fail=>.fail)
  | .pan p _=>kp g p
def homeOf:S->Nat
  | .ar h _ _=>bit h
  | .ea h _ _ _=>bit h
  | .al h _ _ _=>bit h
  | .fa h _=>bit h
  | _=>0
def rdOf (o:Oper) (st:St):Nat:=o.op.operands.toList.foldr (fun x m=>om x ||| homeOf (opnd st x) ||| m) 0
def dstBit (o:Oper):Nat:=match o.dst with|some d=>bit d|none=>0
def dstBox (o:Oper) (st:St):Bool:=match o.dst with|some d=>isBox (get st d)|none=>false
def packTake (t:Ty) (s s1 s2:S):Option t.den :=
  match t,s,s2 with
  | .prod (.list e) (.prod t1 (.prod (.list e2) .unit)),.arr u xs _,.own u2 ys _=>if h:u=e/\u2=e2 then (match s1.as t1 with
    | some y=>some ((h.1 ▸ xs:List e.den),y,(h.2 ▸ ys:List e2.den),())
    | none=>none) else none
  | _,_,_=>none
def findTake (g:Nat) (s s1 s2:S) (h:Nat):List Spec->Option ((sp:Spec)×sp.arg.den×Nat)
  | []=>none
  | sp :: sps=>if sp.fn=g/\sp.kind = .take then (match packTake sp.arg s s1 s2 with
    | some x=>some ⟨sp,x,h⟩
    | none=>findTake g s s1 s2 h sps) else findTake g s s1 s2 h sps
def takeOf (o:Oper) (st:St):Option ((sp:Spec)×sp.arg.den×Nat) :=
  match o.op with
  | .call c=>(match c.callee,c.args.toList with
    | .value f,[.tmp h,x1,.tmp h2]=>(match opnd st f with
      | .d .raw v=>(match (v:Value) with
        | .func (.func g) first captured=>if first.size=0/\captured.size=0/\enters P g=true then findTake g (get st h) (opnd st x1) (get st h2) h (Φ g) else none
        | _=>none)
      | _=>none)
    | _,_=>none)
  | _=>none
def wrTake (o:Oper) (sp:Spec) (h:Nat) (r:sp.res.den):List (Nat×S):=(h,.und) :: wrRes o sp r
def runOp (kp:Nat->Value->Out ρ) (o:Oper) (g:Nat) (k:Nat×Nat->St->Out ρ) (st:St):Out ρ :=
  match dstBox o st with
  | true=>.fail
  | false=>(match takeOf P Φ o st with
    | some y=>(match y.1.f y.2.1 with
      | .ret r=>k (g ||| dstBit o ||| rdOf o st,wmask (wrTake o y.1 y.2.2 r)) (app (wrTake o y.1 y.2.2 r) st)
      | _=>.fail)
    | none=>runPre kp o (g ||| dstBit o ||| rdOf o st) k st (vpre P Φ o st))
def wrSkip (o:Oper):List (Nat×S):=o.dst.toList.map (·,S.tup .unit ())
def skipOp (o:Oper) (g:Nat) (k:Nat×Nat->St->Out ρ) (st:St):Out ρ :=
  match dstBox o st with
  | true=>.fail
  | false=>k (g ||| dstBit o,wmask (wrSkip o)) (app (wrSkip o) st)
def vop (kp:Nat->Value->Out ρ) (ops:Array Oper) (o:Oper) (k:Nat×Nat->St->Out ρ) (st:St):Out ρ :=
  match o.guard with
  | none=>runOp P Φ kp o 0 k st
  | some (j,want) =>
    match (ops[j]?).bind (·.dst) with
    | none=>.fail
    | some t =>
      match get st t with
      | .d .bool b=>(match b with
        | true=>(match want with
          | true=>runOp P Φ kp o (bit t) k (st.set t (.d .bool true))
          | false=>skipOp o (bit t) k (st.set t (.d .bool true)))
        | false=>(match want with
          | false=>runOp P Φ kp o (bit t) k (st.set t (.d .bool false))
          | true=>skipOp o (bit t) k (st.set t (.d .bool false))))
      | .tup .unit _=>skipOp o (bit t) k st
      | _=>.fail
def vlex (kp:Nat->Value->Out ρ) (ops:Array Oper) (k:St->Out ρ):List Oper->St->Out ρ
  | [],st=>k st
  | o :: rest,st=>vop P Φ kp ops o (fun _ st'=>vlex kp ops k rest st') st
def masks (acc:List Nat):List Oper->List Nat
  | []=>acc
  | o :: l=>masks (acc++[o.after.toList.foldl (fun s e=>bif Region.binds .any e then s ||| bit e.on ||| acc.getD e.on 0 else s) 0]) l
def blocked (ops:Array Oper) (i pm:Nat):Bool :=
  match pm with
  | 0=>false
  | pm=>((masks [] ops.toList).getD i 0 &&& pm) != 0
def like (p q:Value):Bool :=
  match p,q with
  | .iface T (.agg cs),.iface T' (.agg cs')=>T==T' && cs.size==cs'.size && cs.toList.all (·.oneCell') && cs'.toList.all (·.oneCell')
  | _,_=>false
def vdraw (ops:Array Oper) (k:List (Nat×Nat)->Option Value->St->Out ρ):List Oper->Nat->List (Nat×Nat)->Nat->Option Value->St->Out ρ
  | [],_,acc,_,pp,st=>k acc pp st
  | o :: rest,i,acc,pm,pp,st =>
    match blocked ops i pm with
    | true=>vdraw ops k rest (i+1) ((0,0) :: acc) pm pp st
    | false=>vop P Φ (fun g p=>match pp with
        | none=>vdraw ops k rest (i+1) ((g,0) :: acc) (pm ||| bit i) (some p) st
        | some q=>bif like q p then vdraw ops k rest (i+1) ((g,0) :: acc) (pm ||| bit i) (some q) st else .fail) ops o
      (fun e st'=>vdraw ops k rest (i+1) (e :: acc) pm pp st') st
def waits (ops:Array Oper) (i j:Nat):Bool :=
  match ops[j]? with
  | some o=>o.after.any fun e=>Region.binds .any e && e.on==i
  | none=>false
def waitsT (ops:Array Oper) (i j:Nat):Bool:=((masks [] ops.toList).getD j 0).testBit i
def apart1 (ops:Array Oper) (i:Nat) (ri wi:Nat):Nat->List (Nat×Nat)->Bool
  | _,[]=>true
  | j,(rj,wj) :: fs=>(waits ops i j || (wi &&& (rj ||| wj)==0 && ri &&& wj==0) || waitsT ops i j) && apart1 ops i ri wi (j+1) fs
def apartAll (ops:Array Oper):Nat->List (Nat×Nat)->Bool
  | _,[]=>true
  | i,(ri,wi) :: fs=>apart1 ops i ri wi (i+1) fs && apartAll ops (i+1) fs
def early (ops:Array Oper):Bool:=ops.toList.zipIdx.all fun (o,i)=>o.after.all fun e => !Region.binds .any e || decide (e.on<i)
def vguard (c:Bool) (x:Out ρ):Out ρ :=
  match c with
  | true=>x
  | false=>.fail
def pinsOk (pl:Option (List Nat)) (st:St):Bool :=
  match pl with
  | none=>true
  | some l=>l.all fun j=>isBox (get st j)
def iter (f:(X->St->Out ρ)->St->Out ρ) (mask:St->St) (ok:St->Bool) (k:X->St->Out ρ):Nat->St->Out ρ
  | 0,_=>.fail
  | n+1,st=>f (fun e s=>match e with | .normal=>vguard (ok s) (iter f mask ok k n (mask s))|e=>k e s) st
def firstRegion:Code->Nat
  | .region id _ _=>id
  | .seq a _=>firstRegion a
  | .block _ b=>firstRegion b
  | .scope b=>firstRegion b
  | .loop b=>firstRegion b
  | _=>0
def demC:C->C
  | .own t xs _=>.d (.list t) xs
  | .arr _ _ _=>.und
  | c=>c
def demS:S->S
  | .own t xs _=>.d (.list t) xs
  | .arr _ _ _=>.und
  | .ar _ _ _=>.und
  | .ea _ _ _ _=>.und
  | .al _ _ t xs=>.d (.list t) xs
  | .fa _ _=>.und
  | .sit _ _=>.und
  | .box cs=>.box (cs.map demC)
  | s=>s
def keep (l d:List Nat):Nat->St->St
  | _,[]=>[]
  | i,s :: st=>(if l.contains i then (if d.contains i then demS s else dropS s) else .und) :: keep l d (i+1) st
def maskOf (hints:List (Nat×List Nat)) (b:Code) (st:St):St :=
  match hints.find? (fun h=>h.1==firstRegion b) with
  | some h=>keep h.2 (match hints.find? (fun h=>h.1==firstRegion b+1000000) with|some d=>d.2|none=>[]) 0 st
  | none=>st.map dropS
variable (hints : List (Nat × List Nat)) (N : Nat)
def rngS:S->S
  | .box cs=>.box (cs.map dropC)
  | s=>demS s
def backS:S->S->S
  | .box _,.box cs=>.box (cs.map dropC)
  | .box _,_=>.und
  | s,_=>s
def backF:Nat->St->St->St
  | _,[],_=>[]
  | i,a :: st,s=>backS a (get s i) :: backF (i+1) st s
def back (st s:St):St:=backF 0 st s
def boxesOf:Nat->St->List Nat
  | _,[]=>[]
  | i,s :: st=>(match isBox s with
    | true=>i :: boxesOf (i+1) st
    | false=>boxesOf (i+1) st)
def asList:(t:Ty)->t.den->Option ((e:Ty)×List e.den)
  | .list e,r=>some ⟨e,r⟩
  | _,_=>none
def itemsOf (sp:Spec) (x:sp.arg.den):Option ((e:Ty)×List e.den) :=
  match sp.f x with
  | .ret r=>asList sp.res r
  | _=>none
def findIter (s:S):List Spec->Option ((sp:Spec)×sp.arg.den)
  | []=>none
  | sp :: sps=>if sp.kind = .iter then (match s.as sp.arg with
    | some x=>some ⟨sp,x⟩
    | none=>findIter s sps) else findIter s sps
def vrange (f:(X->St->Out ρ)->St->Out ρ) (p:Nat) (e:Ty) (st:St) (k:X->St->Out ρ):List e.den->St->Out ρ
  | [],s=>k .normal s
  | y :: ys,s=>f (fun x s'=>match x with
      | .normal=>vrange f p e st k ys (back st s')
      | x=>k x (back st s')) (s.set p (dS e y))
def vexec:Code->Option (List Nat)->(X->St->Out ρ)->St->Out ρ
  | .skip,_,k,st=>k .normal st
  | .region id ops draw,pl,k,st=>vguard (pinsOk pl (frz P hints id (st.map dropS))) (match draw with
    | true=>vdraw P Φ ops (fun acc pp st'=>bif early ops && apartAll ops 0 acc.reverse then (match pp with
        | none=>k .normal st'
        | some p=>(match pl with|none=>.pan p|some _=>.fail)) else .fail) ops.toList 0 [] 0 none (frz P hints id (st.map dropS))
    | false=>vlex P Φ (fun _ p=>match pl with|none=>.pan p|some _=>.fail) ops (fun st'=>k .normal st') ops.toList (frz P hints id (st.map dropS)))
  | .seq a b,pl,k,st=>vexec a pl (fun e s=>match e with | .normal=>vexec b pl k s|e=>k e s) st
  | .cond c a b,pl,k,st =>
    (match opnd st c with
     | .d .bool v=>(match v with
       | true=>vexec a pl k (match c with | .tmp t=>st.set t (.d .bool true)|_=>st)
       | false=>vexec b pl k (match c with | .tmp t=>st.set t (.d .bool false)|_=>st))
     | _=>.fail)
  | .block id b,pl,k,st=>vexec b pl (fun e s=>match e with
      | .exit i=>if i=id then k .normal s else k (.exit i) s
      | e=>k e s) st
  | .loop b,pl,k,st=>vguard (pinsOk pl (maskOf hints b st)) (iter (fun k' s=>vexec b pl k' s) (maskOf hints b) (fun s=>pinsOk pl (maskOf hints b s)) k N (maskOf hints b st))
  | .exit id,_,k,st=>k (.exit id) st
  | .label _,_,k,st=>k .normal st
  | .scope b,pl,k,st=>(match pl with
    | none=>vexec b pl k st
    | some _=>.fail)
  | .ret,_,k,st=>k .ret st
  | .rangeFunc f ps assign body,pl,k,st=>(match pl with
    | some _=>.fail
    | none=>(match ps.toList,opnd st f with
      | [p],.d (.clo g a b) x=>(match findIter (.d (.clo g a b) x) (Φ g) with
        | some y=>(match y.1.f y.2 with
          | .ret r=>(match asList y.1.res r with
            | some z=>(match isBox (get st p) with
              | true=>.fail
              | false=>vrange (fun k' s=>vexec assign (some (boxesOf 0 (st.map rngS))) (fun e s=>match e with | .normal=>vexec body (some (boxesOf 0 (st.map rngS))) k' s|_=>.fail) s) p z.1 (st.map rngS) k z.2 (st.map rngS))
            | none=>.fail)
          | _=>.fail)
        | none=>.fail)
      | _,_=>.fail))
  | _,_,_,_=>.fail
def resOf (r:ResultVar) (own:Bool) (st:St) (t:Ty):Option t.den :=
  match r with
  | .tmp i=>(match own,get st i with
    | true,.own u xs _=>(get st i).as t
    | true,.nil=>(get st i).as t
    | true,_=>none
    | false,s=>s.as t)
  | .cell a T=>(match get st a with
    | .box cs=>if own then none else if ty P T=some t then (match gath t cs with|some (x,[])=>some x|_=>none) else none
    | _=>none)
def resOfs:List ResultVar->St->(t:Ty)->Option t.den
  | [],_,.unit=>some ()
  | r :: rs,st,.prod a b=>(match resOf P r false st a with
    | some x=>(match resOfs rs st b with
      | some y=>some (x,y)
      | none=>none)
    | none=>none)
  | _,_,_=>none
def resArr (r:ResultVar) (st:St) (t:Ty):Option t.den :=
  match r with
  | .tmp i=>(match get st i with
    | .arr u xs _=>if h:Ty.list u=t then some (h ▸ (xs:(Ty.list u).den)) else none
    | _=>none)
  | _=>none
def vres (rs:List ResultVar) (multi own:Bool) (t:Ty) (st:St):Out t.den :=
  match multi with
  | true=>(match own with
    | true=>(match rs with
      | [r]=>(match resArr r st t with|some x=>.ret x|none=>.fail)
      | _=>.fail)
    | false=>(match rs with
      | [_]=>.fail
      | rs=>(match resOfs P rs st t with|some x=>.ret x|none=>.fail)))
  | false=>(match rs with
    | [r]=>(match resOf P r own st t with|some x=>.ret x|none=>.fail)
    | _=>.fail)
def st0 (ntmps:Nat) (t:Ty) (x:t.den):St:=argS t x++List.replicate (ntmps - (argS t x).length) .und
def vbody (code:Code) (rs:List ResultVar) (multi own:Bool) (t:Ty) (st:St):Out t.den :=
  vexec P Φ hints N code none (fun e s=>match e with
    | .normal=>vres P rs multi own t s
    | .ret=>vres P rs multi own t s
    | _=>.fail) st
end
end Go.V
namespace Go.V
open Go.RowKit (Below)
abbrev tm (a:Act) (i:Nat):Value:=a.tmps.getD i undef
def ownB:Value->Option Nat
  | .slice (some a) _ _=>some a.block
  | .pointer (some a)=>some a.block
  | _=>none
def OwnAt (M:Mut) (w:World) (sz:Nat) (v:Value) (n:Nat):Prop :=
  (v = .slice none 0 0/\n=0) \/
  ∃ g cap cells T,v = .slice (some ⟨g,0,none⟩) n cap/\w.heap[g]? = some (.cells cells T (0,0))/\n<=cap/\cap<=maxLen /\
    cells.size=cap * sz/\∀ o,n * sz<=o->M g o
def ArrAt (M:Mut) (w:World) (t:Ty) (v:Value) (xs:List t.den):Prop :=
  (v = .slice none 0 0/\xs=[]) \/
  ∃ g cap cells T,v = .slice (some ⟨g,0,none⟩) xs.length cap/\w.heap[g]? = some (.cells cells T (0,0))/\xs.length<=cap/\cap<=maxLen /\
    cells.size=cap * t.size/\(∀ o,M g o)/\∀ i (h:i<xs.length),RepC M w t ((cells.toList.drop (i * t.size)).take t.size) xs[i]
def CellOK (M:Mut) (w:World) (v:Value):C->Prop
  | .und=>True
  | .d t x=>RepC M w t [v] x
  | .own t xs _=>RepC M w (.list t) [v] xs/\OwnAt M w t.size v xs.length
  | .arr t xs _=>ArrAt M w t v xs
def RepT (M:Mut) (w:World):(t:Ty)->List Value->t.den->Prop
  | .unit,vs,_=>vs=[]
  | .prod a b,vs,x=>∃ v rest,vs=v :: rest/\RepV M w a v x.1/\RepT M w b rest x.2
  | _,_,_=>False
theorem RepT.mono {M M':Mut} {w w':World} (hs:Stable M w M' w'):∀ (t:Ty) (vs:List Value) (x:t.den),RepT M w t vs x->RepT M' w' t vs x
  | .unit,_,_,h=>h
  | .prod a b,_,_,h=>by
    obtain ⟨v,rest,e,h1,h2⟩:=h
    exact ⟨v,rest,e,h1.mono hs,RepT.mono hs b _ _ h2⟩
  | .int _,_,_,h=>h.elim
  | .bool,_,_,h=>h.elim
  | .str,_,_,h=>h.elim
  | .list _,_,_,h=>h.elim
  | .raw,_,_,h=>h.elim
  | .opq,_,_,h=>h.elim
  | .dyn _ _,_,_,h=>h.elim
  | .ptr _,_,_,h=>h.elim
  | .clo _ _ _,_,_,h=>h.elim
def nxtV (b:Bool) (p c:Int):Value :=
  match b with
  | true=>.tuple #[.bool true,.int .i64 p,.int .i32 c]
  | false=>.tuple #[.bool false]
def SlotOK (M:Mut) (w:World) (st:St) (a:Act) (v:Value):S->Prop
  | .und=>True
  | .nil=>v = .slice none 0 0
  | .d t x=>RepV M w t v x
  | .own t xs _=>RepC M w (.list t) [v] xs/\OwnAt M w t.size v xs.length
  | .al h none t xs=>RepC M w (.list t) [v] xs/\∀ u ys,get st h = .own u ys false->tm a h=v
  | .al h (some k) t xs=>RepC M w (.list t) [v] xs/\∀ cs u ys b,get st h = .box cs->cs[k]? = some (.own u ys false)->ownB (tm a h)=some b->w.cell? ⟨b,k,none⟩=some v
  | .ref t x=>∃ b o cs,v = .pointer (some ⟨b,o,none⟩)/\cs.length=t.size/\CellsAt M w b o cs/\RepC M w t cs x
  | .box cs=>∃ b T cells,v = .pointer (some ⟨b,0,none⟩)/\w.heap[b]? = some (.cells cells T (0,0))/\cells.size=cs.length/\(∀ o,M b o) /\
      ∀ (k:Nat) (c:C) (u:Value),cs[k]? = some c->cells[k]? = some u->CellOK M w u c
  | .fa h off=>∃ b cs,get st h = .box cs/\tm a h = .pointer (some ⟨b,0,none⟩)/\v = .pointer (some ⟨b,off,none⟩)
  | .tup t x=>∃ vs:List Value,v = .tuple vs.toArray/\RepT M w t vs x
  | .arr t xs _=>ArrAt M w t v xs
  | .ar h none t=>∀ ys,get st h = .arr t ys false->tm a h=v
  | .ar h (some k) t=>∀ cs ys b,get st h = .box cs->cs[k]? = some (.arr t ys false)->ownB (tm a h)=some b->w.cell? ⟨b,k,none⟩=some v
  | .ea h none t i=>∀ ys,get st h = .arr t ys false->∃ g,ownB (tm a h)=some g/\v = .pointer (some ⟨g,i * t.size,none⟩)
  | .ea h (some k) t i=>∀ cs ys b,get st h = .box cs->cs[k]? = some (.arr t ys false)->ownB (tm a h)=some b ->
      ∃ u g,w.cell? ⟨b,k,none⟩=some u/\ownB u=some g/\v = .pointer (some ⟨g,i * t.size,none⟩)
  | .sit xs pos=>∃ r,v = .pointer (some ⟨r,0,none⟩)/\w.heap[r]? = some (.stringIter ⟨⟨xs⟩⟩ pos)
  | .nxt b p c=>v=nxtV b p c
def ownS:S->Bool
  | .own _ _ _=>true
  | .box _=>true
  | .arr _ _ _=>true
  | .sit _ _=>true
  | _=>false
def ownC:C->Bool
  | .own _ _ _=>true
  | .arr _ _ _=>true
  | _=>false
def owns (st:St) (a:Act) (w:World) (i:Nat) (k:Option Nat) (b:Nat):Prop :=
  match k with
  | none=>ownS (get st i)=true/\ownB (tm a i)=some b
  | some k=>∃ cs c0 c v,get st i = .box cs/\cs[k]? = some c0/\ownC c0=true/\ownB (tm a i)=some c/\w.cell? ⟨c,k,none⟩=some v/\ownB v=some b
def Marks (q:Nat->Prop) (w:World):List Deferred->Prop
  | []=>True
  | d :: ds=>(∃ D,d={ target:=.collected D,args := #[] }/\w.heap[D]? = some (.deferred (some []))/\q D)/\(∀ d'∈ds,d'≠d)/\Marks q w ds
def KeepsD (w w':World):Prop:=∀ (D:Nat) (c:Option (List Deferred)),w.heap[D]? = some (.deferred c)->w'.heap[D]? = some (.deferred c)
theorem KeepsD.refl (w:World):KeepsD w w:=fun _ _ h=>h
theorem KeepsD.below {w w':World} (h:Below w.heap.size w w'):KeepsD w w':=fun D _ e=>(h.block D (Array.getElem?_eq_some_iff.1 e).1).trans e
theorem KeepsD.but {w w':World} {g:Nat} {ob:Obj} (hg:w.heap[g]? = some ob) (hn:∀ c,ob ≠ .deferred c) (h:∀ k,k<w.heap.size->k≠g->w'.heap[k]? = w.heap[k]?):KeepsD w w':=by
  intro D c e
  by_cases hD:D=g
  . subst hD;rw [hg] at e;cases e;exact absurd rfl (hn c)
  . exact (h D (Array.getElem?_eq_some_iff.1 e).1 hD).trans e
theorem Marks.keep {q:Nat->Prop} {w w':World} (hk:KeepsD w w'):∀ {ds:List Deferred},Marks q w ds->Marks q w' ds
  | [],_=>trivial
  | _ :: _,⟨⟨D,e,h,hq⟩,h2,h3⟩=>⟨⟨D,e,hk D _ h,hq⟩,h2,h3.keep hk⟩
theorem Marks.imp {q q':Nat->Prop} {w:World} (hq:∀ D,q D->q' D):∀ {ds:List Deferred},Marks q w ds->Marks q' w ds
  | [],_=>trivial
  | _ :: _,⟨⟨D,e,h,h1⟩,h2,h3⟩=>⟨⟨D,e,h,hq D h1⟩,h2,h3.imp hq⟩
structure Fr (F:Nat->Prop) (w w':World):Prop where
  os:w'.os=w.os
  tape:w'.tape=w.tape
  output:w'.output=w.output
  size:w.heap.size<=w'.heap.size
  block:∀ k,F k->w'.heap[k]? = w.heap[k]?
theorem Fr.refl (F:Nat->Prop) (w:World):Fr F w w:=⟨rfl,rfl,rfl,Nat.le_refl _,fun _ _=>rfl⟩
theorem Fr.trans {F:Nat->Prop} {a b c:World} (h:Fr F a b) (k:Fr F b c):Fr F a c :=
  ⟨k.os.trans h.os,k.tape.trans h.tape,k.output.trans h.output,Nat.le_trans h.size k.size,fun i hi=>(k.block i hi).trans (h.block i hi)⟩
theorem Fr.below {F:Nat->Prop} {n:Nat} {w w':World} (h:Below n w w') (hF:∀ k,F k->k<n):Fr F w w':=⟨h.os,h.tape,h.output,h.size,fun k hk=>h.block k (hF k hk)⟩
theorem Fr.toBelow {n:Nat} {w w':World} (h:Fr (· < n) w w'):Below n w w':=⟨h.os,h.tape,h.output,h.size,h.block⟩
theorem Fr.drew {F:Nat->Prop} {a w:World} (h:Fr F a w):Fr F a w.drew:=⟨h.os,h.tape,h.output,h.size,h.block⟩
theorem Fr.alloc {F:Nat->Prop} {a w:World} (h:Fr F a w) (hF:∀ b,F b->b<w.heap.size) (o:Obj):Fr F a (w.alloc o) :=
  h.trans (Fr.below ((Below.refl w.heap.size w).alloc (Nat.le_refl _) o) hF)
theorem Fr.but {F:Nat->Prop} {a w w':World} (h:Fr F a w) {g:Nat} (hg:¬ F g) (h1:w'.os=w.os) (h2:w'.tape=w.tape) (h3:w'.output=w.output) (h4:w.heap.size<=w'.heap.size)
    (hk:∀ k,k≠g->w'.heap[k]? = w.heap[k]?):Fr F a w' :=
  h.trans ⟨h1,h2,h3,h4,fun k hF=>hk k fun e=>hg (e ▸ hF)⟩
structure Base where
  mu:Mut
  ms:Mut
  ws:World
  pin:Nat->Option Value
  dm:Nat->Prop
structure Good (M0:Base) (F:Nat->Prop) (M:Mut) (st:St) (a:Act) (w:World):Prop where
  defers:Marks M0.dm w a.defers
  size:a.tmps.size=st.length
  room:∀ b,F b->b<w.heap.size
  base:∀ b o,M0.mu b o->F b
  up:∀ b o,M0.mu b o->M b o
  lt:∀ b o,M b o->b<w.heap.size
  down:∀ b o,F b->M b o->M0.mu b o
  slot:∀ i,SlotOK M w st a (tm a i) (get st i)
  one:∀ i k j l b,owns st a w i k b->owns st a w j l b->i=j/\k=l
  new:∀ i k b,owns st a w i k b->¬ F b
  keep:Stable M0.ms M0.ws M w
  pin:∀ j v,M0.pin j=some v->tm a j=v/\isBox (get st j)=true
  dm:∀ D,¬ F D->M0.dm D
def Conc (F:Nat->Prop) (M0:Base) (w0:World) (st:St) (a:Act) (w:World):Prop:=Fr F w0 w/\∃ M,Good M0 F M st a w
theorem ownAt_lt {M:Mut} {w:World} {sz n b:Nat} {v:Value} (h:OwnAt M w sz v n) (hb:ownB v=some b):b<w.heap.size:=by
  rcases h with ⟨e1,_⟩|⟨g,cap,cells,T,e1,e2,_⟩
  . rw [e1] at hb;simp [ownB] at hb
  . rw [e1] at hb;simp [ownB] at hb;subst hb;exact (Array.getElem?_eq_some_iff.1 e2).1
theorem arrAt_lt {M:Mut} {w:World} {t:Ty} {xs:List t.den} {b:Nat} {v:Value} (h:ArrAt M w t v xs) (hb:ownB v=some b):b<w.heap.size:=by
  rcases h with ⟨e1,_⟩|⟨g,cap,cells,T,e1,e2,_⟩
  . rw [e1] at hb;simp [ownB] at hb
  . rw [e1] at hb;simp [ownB] at hb;subst hb;exact (Array.getElem?_eq_some_iff.1 e2).1
theorem owns_lt {M:Mut} {w:World} {st:St} {a:Act} (hslot:∀ i,SlotOK M w st a (tm a i) (get st i)) {i:Nat} {k:Option Nat} {b:Nat} (h:owns st a w i k b):b<w.heap.size:=by
  have hs:=hslot i
  cases k with
  | none =>
    obtain ⟨h1,h2⟩:=h
    cases e:get st i<;>rw [e] at h1 hs<;>simp [ownS] at h1
    . exact ownAt_lt hs.2 h2
    . obtain ⟨b',T,cells,e1,e2,_⟩:=hs
      rw [e1] at h2;simp [ownB] at h2;subst h2;exact (Array.getElem?_eq_some_iff.1 e2).1
    . exact arrAt_lt hs h2
    . obtain ⟨r,e1,e2⟩:=hs
      rw [e1] at h2;simp [ownB] at h2;subst h2;exact (Array.getElem?_eq_some_iff.1 e2).1
  | some k =>
    obtain ⟨cs,c0,c,v,e1,e2,e0,e3,e4,e5⟩:=h
    rw [e1] at hs
    obtain ⟨b',T,cells,f1,f2,f3,f4,f5⟩:=hs
    rw [f1] at e3;simp [ownB] at e3;subst e3
    rw [cell_of_row w _ k cells T (0,0) f2] at e4
    have:=f5 k _ v e2 e4
    cases c0<;>simp [ownC] at e0
    . exact ownAt_lt this.2 e5
    . exact arrAt_lt this e5
theorem OwnAt.keep {M M':Mut} {w w':World} {sz:Nat} {v:Value} {n:Nat} (h:OwnAt M w sz v n)
    (hk:∀ b,ownB v=some b->w'.heap[b]? = w.heap[b]? /\ ∀ o,M b o->M' b o):OwnAt M' w' sz v n:=by
  rcases h with h|⟨g,cap,cells,T,e1,e2,e3,e4,e5,e6⟩
  . exact .inl h
  . have:=hk g (by rw [e1];rfl)
    exact .inr ⟨g,cap,cells,T,e1,this.1.trans e2,e3,e4,e5,fun o ho=>this.2 o (e6 o ho)⟩
theorem ArrAt.keep {M M':Mut} {w w':World} (hs:Stable M w M' w') {t:Ty} {v:Value} {xs:List t.den} (h:ArrAt M w t v xs)
    (hk:∀ b,ownB v=some b->w'.heap[b]? = w.heap[b]? /\ ∀ o,M b o->M' b o):ArrAt M' w' t v xs:=by
  rcases h with h|⟨g,cap,cells,T,e1,e2,e3,e4,e5,e6,e7⟩
  . exact .inl h
  . have:=hk g (by rw [e1];rfl)
    exact .inr ⟨g,cap,cells,T,e1,this.1.trans e2,e3,e4,e5,fun o=>this.2 o (e6 o),fun i hi=>RepC.mono hs _ _ _ (e7 i hi)⟩
theorem CellOK.keep {M M':Mut} {w w':World} (hs:Stable M w M' w') {v:Value} {c:C} (h:CellOK M w v c)
    (hk:∀ b,ownC c=true->ownB v=some b->w'.heap[b]? = w.heap[b]? /\ ∀ o,M b o->M' b o):CellOK M' w' v c:=by
  cases c with
  | und=>exact h
  | d t x=>exact RepC.mono hs _ _ _ h
  | own t xs hh=>exact ⟨RepC.mono hs _ _ _ h.1,h.2.keep fun b hb=>hk b rfl hb⟩
  | arr t xs hh=>exact ArrAt.keep hs h fun b hb=>hk b rfl hb
structure Turn (st:St) (a:Act) (w:World) (st':St) (a':Act) (w':World):Prop where
  own:∀ h u ys,get st' h = .own u ys false->get st h = .own u ys false/\tm a' h=tm a h
  cell:∀ h cs k u ys,get st' h = .box cs->cs[k]? = some (.own u ys false) ->
    ∃ cs0,get st h = .box cs0/\cs0[k]? = some (.own u ys false)/\tm a' h=tm a h/\∀ b,ownB (tm a h)=some b->w'.cell? ⟨b,k,none⟩=w.cell? ⟨b,k,none⟩
  arr:∀ h u ys,get st' h = .arr u ys false->∃ ys0,get st h = .arr u ys0 false/\tm a' h=tm a h
  cellA:∀ h cs k u ys,get st' h = .box cs->cs[k]? = some (.arr u ys false) ->
    ∃ cs0 ys0,get st h = .box cs0/\cs0[k]? = some (.arr u ys0 false)/\tm a' h=tm a h/\∀ b,ownB (tm a h)=some b->w'.cell? ⟨b,k,none⟩=w.cell? ⟨b,k,none⟩
  box:∀ h cs,get st h = .box cs->(∃ cs',get st' h = .box cs')/\tm a' h=tm a h
theorem Good.pin_turn {M0:Base} {F:Nat->Prop} {M:Mut} {st st':St} {a:Act} {w w':World} (h:Good M0 F M st a w) (ht:Turn st a w st' a w'):∀ j v,M0.pin j=some v->tm a j=v/\isBox (get st' j)=true:=fun j v hj=>by
  obtain ⟨h1,h2⟩:=h.pin j v hj
  refine ⟨h1,?_⟩
  cases e':get st j<;>rw [e'] at h2<;>simp [isBox] at h2
  obtain ⟨⟨cs',f1⟩,_⟩:=ht.box j _ e'
  rw [f1];rfl
theorem SlotOK.keep {M M':Mut} {w w':World} {st st':St} {a a':Act} (hs:Stable M w M' w') (ht:Turn st a w st' a' w') {i:Nat} {v:Value} {s:S}
    (hv:tm a i=v) (hg:get st i=s) (h:SlotOK M w st a v s) (hk:∀ k b,owns st a w i k b->w'.heap[b]? = w.heap[b]? /\ ∀ o,M b o->M' b o):SlotOK M' w' st' a' v s:=by
  cases s with
  | und=>trivial
  | nil=>exact h
  | d t x=>exact RepV.mono hs h
  | own t xs hh=>exact ⟨RepC.mono hs _ _ _ h.1,h.2.keep fun b hb=>hk none b ⟨by rw [hg];rfl,by rw [hv];exact hb⟩⟩
  | al hm k t xs =>
    cases k with
    | none=>exact ⟨RepC.mono hs _ _ _ h.1,fun u ys hu=>by obtain ⟨e1,e2⟩:=ht.own hm u ys hu;rw [e2];exact h.2 u ys e1⟩
    | some k=>exact ⟨RepC.mono hs _ _ _ h.1,fun cs u ys b h1 h2 h3=>by
        obtain ⟨cs0,e1,e2,e3,e4⟩:=ht.cell hm cs k u ys h1 h2
        rw [e3] at h3
        rw [e4 b h3]
        exact h.2 cs0 u ys b e1 e2 h3⟩
  | ref t x =>
    obtain ⟨b,o,cs,e1,e2,e3,e4⟩:=h
    exact ⟨b,o,cs,e1,e2,e3.mono hs,RepC.mono hs _ _ _ e4⟩
  | box cs =>
    obtain ⟨b,T,cells,e1,e2,e3,e4,e5⟩:=h
    have hb:=hk none b ⟨by rw [hg];rfl,by rw [hv,e1];rfl⟩
    refine ⟨b,T,cells,e1,hb.1.trans e2,e3,fun o=>hb.2 o (e4 o),fun k c u hc hu=>(e5 k c u hc hu).keep hs fun g ec eg=>?_⟩
    exact hk (some k) g ⟨cs,c,b,u,hg,hc,ec,by rw [hv,e1];rfl,by rw [cell_of_row w b k cells T (0,0) e2];exact hu,eg⟩
  | fa hm off =>
    obtain ⟨b,cs,e1,e2,e3⟩:=h
    obtain ⟨⟨cs',f1⟩,f2⟩:=ht.box hm cs e1
    exact ⟨b,cs',f1,by rw [f2];exact e2,e3⟩
  | tup t x =>
    obtain ⟨vs,e1,e2⟩:=h
    exact ⟨vs,e1,RepT.mono hs _ _ _ e2⟩
  | arr t xs hh=>exact ArrAt.keep hs h fun b hb=>hk none b ⟨by rw [hg];rfl,by rw [hv];exact hb⟩
  | ar hm k t =>
    cases k with
    | none =>
      intro ys hu
      obtain ⟨ys0,e1,e2⟩:=ht.arr hm t ys hu
      rw [e2]
      exact h ys0 e1
    | some k =>
      intro cs ys b h1 h2 h3
      obtain ⟨cs0,ys0,e1,e2,e3,e4⟩:=ht.cellA hm cs k t ys h1 h2
      rw [e3] at h3
      rw [e4 b h3]
      exact h cs0 ys0 b e1 e2 h3
  | ea hm k t i =>
    cases k with
    | none =>
      intro ys hu
      obtain ⟨ys0,e1,e2⟩:=ht.arr hm t ys hu
      rw [e2]
      exact h ys0 e1
    | some k =>
      intro cs ys b h1 h2 h3
      obtain ⟨cs0,ys0,e1,e2,e3,e4⟩:=ht.cellA hm cs k t ys h1 h2
      rw [e3] at h3
      rw [e4 b h3]
      exact h cs0 ys0 b e1 e2 h3
  | sit xs pos =>
    obtain ⟨r,e1,e2⟩:=h
    exact ⟨r,e1,(hk none r ⟨by rw [hg];rfl,by rw [hv,e1];rfl⟩).1.trans e2⟩
  | nxt b p c=>exact h
theorem get_set (st:St) (d i:Nat) (s:S) (hd:d<st.length):get (st.set d s) i=if i=d then s else get st i:=by
  unfold get
  by_cases h:i=d
  . subst h;simp [List.getD_eq_getElem?_getD,hd]
  . simp [List.getD_eq_getElem?_getD,List.getElem?_set_ne (Ne.symm h),h]
theorem get_set_ne (st:St) {d i:Nat} (s:S) (h:i≠d):get (st.set d s) i=get st i:=by
  unfold get
  simp [List.getD_eq_getElem?_getD,List.getElem?_set_ne (Ne.symm h)]
theorem tm_put (a:Act) (d i:Nat) (v:Value) (hd:d<a.tmps.size):tm (a.put (some d) v) i=if i=d then v else tm a i:=by
  unfold tm Act.put
  by_cases h:i=d
  . subst h;simp [hd]
  . have:¬ d=i:=fun e=>h e.symm
    simp [h,Array.getElem?_setIfInBounds,this]
theorem tm_put_ne (a:Act) {d i:Nat} (v:Value) (h:i≠d):tm (a.put (some d) v) i=tm a i:=by
  have:¬ d=i:=fun e=>h e.symm
  unfold tm Act.put
  simp [Array.getElem?_setIfInBounds,this]
theorem get_oob {st:St} {i:Nat} (h:st.length<=i):get st i = .und:=by
  unfold get;simp [List.getD_eq_getElem?_getD,List.getElem?_eq_none h]
end Go.V
namespace Go.V
open Go.RowKit (Below)
def Fresh:S->Prop
  | .own _ _ hot=>hot=true
  | .arr _ _ hot=>hot=true
  | .box cs=>∀ (k:Nat) t xs,cs[k]? ≠ some (.own t xs false)/\cs[k]? ≠ some (.arr t xs false)
  | _=>True
def plain:S->Bool
  | .own _ _ _=>false
  | .box _=>false
  | .arr _ _ _=>false
  | .sit _ _=>false
  | _=>true
section
variable {M0 : Base} {F : Nat → Prop} {M : Mut} {st : St} {a : Act} {w : World}
theorem owns_put {d:Nat} {s:S} {v:Value} {i:Nat} {k:Option Nat} {b:Nat} (hi:i≠d) (h:owns (st.set d s) (a.put (some d) v) w i k b):owns st a w i k b:=by
  cases k with
  | none=>simpa only [owns,get_set_ne st s hi,tm_put_ne a v hi] using h
  | some k=>simpa only [owns,get_set_ne st s hi,tm_put_ne a v hi] using h
theorem turn_put {d:Nat} {s:S} {v:Value} (hd:d<st.length) (hf:Fresh s) (hnb:∀ cs,get st d ≠ .box cs) :
    Turn st a w (st.set d s) (a.put (some d) v) w:=by
  refine ⟨fun h u ys e=>?_,fun h cs k u ys e1 e2=>?_,fun h u ys e=>?_,fun h cs k u ys e1 e2=>?_,fun h cs e=>?_⟩
  . by_cases hh:h=d
    . subst hh
      rw [get_set st _ _ s hd,if_pos rfl] at e
      subst e;exact absurd (show false=true from hf) (by simp)
    . rw [get_set_ne st s hh] at e
      exact ⟨e,tm_put_ne a v hh⟩
  . by_cases hh:h=d
    . subst hh
      rw [get_set st _ _ s hd,if_pos rfl] at e1
      subst e1;exact absurd e2 (hf k u ys).1
    . rw [get_set_ne st s hh] at e1
      exact ⟨cs,e1,e2,tm_put_ne a v hh,fun _ _=>rfl⟩
  . by_cases hh:h=d
    . subst hh
      rw [get_set st _ _ s hd,if_pos rfl] at e
      subst e;exact absurd (show false=true from hf) (by simp)
    . rw [get_set_ne st s hh] at e
      exact ⟨ys,e,tm_put_ne a v hh⟩
  . by_cases hh:h=d
    . subst hh
      rw [get_set st _ _ s hd,if_pos rfl] at e1
      subst e1;exact absurd e2 (hf k u ys).2
    . rw [get_set_ne st s hh] at e1
      exact ⟨cs,ys,e1,e2,tm_put_ne a v hh,fun _ _=>rfl⟩
  . by_cases hh:h=d
    . subst hh;exact absurd e (hnb cs)
    . rw [get_set_ne st s hh]
      exact ⟨⟨cs,e⟩,tm_put_ne a v hh⟩
theorem slot_self {d:Nat} {s:S} {v:Value} (hd:d<st.length) (hnb:∀ cs,get st d ≠ .box cs) (hs:SlotOK M w st a v s) (hf:Fresh s) :
    SlotOK M w (st.set d s) (a.put (some d) v) v s:=by
  have ht:=turn_put (a:=a) (w:=w) (v:=v) hd hf hnb
  cases s with
  | und=>trivial
  | nil=>exact hs
  | d t x=>exact hs
  | own t xs hh=>exact hs
  | al hm k t xs =>
    cases k with
    | none=>exact ⟨hs.1,fun u ys hu=>by obtain ⟨e1,e2⟩:=ht.own hm u ys hu;rw [e2];exact hs.2 u ys e1⟩
    | some k=>exact ⟨hs.1,fun cs u ys b h1 h2 h3=>by
        obtain ⟨cs0,e1,e2,e3,e4⟩:=ht.cell hm cs k u ys h1 h2
        rw [e3] at h3
        rw [e4 b h3]
        exact hs.2 cs0 u ys b e1 e2 h3⟩
  | ref t x=>exact hs
  | box cs=>exact hs
  | fa hm off =>
    obtain ⟨b,cs,e1,e2,e3⟩:=hs
    obtain ⟨⟨cs',f1⟩,f2⟩:=ht.box hm cs e1
    exact ⟨b,cs',f1,by rw [f2];exact e2,e3⟩
  | tup t x=>exact hs
  | arr t xs hh=>exact hs
  | ar hm k t =>
    cases k with
    | none =>
      intro ys hu
      obtain ⟨ys0,e1,e2⟩:=ht.arr hm t ys hu
      rw [e2]
      exact hs ys0 e1
    | some k =>
      intro cs ys b h1 h2 h3
      obtain ⟨cs0,ys0,e1,e2,e3,e4⟩:=ht.cellA hm cs k t ys h1 h2
      rw [e3] at h3
      rw [e4 b h3]
      exact hs cs0 ys0 b e1 e2 h3
  | ea hm k t i =>
    cases k with
    | none =>
      intro ys hu
      obtain ⟨ys0,e1,e2⟩:=ht.arr hm t ys hu
      rw [e2]
      exact hs ys0 e1
    | some k =>
      intro cs ys b h1 h2 h3
      obtain ⟨cs0,ys0,e1,e2,e3,e4⟩:=ht.cellA hm cs k t ys h1 h2
      rw [e3] at h3
      rw [e4 b h3]
      exact hs cs0 ys0 b e1 e2 h3
  | sit xs pos=>exact hs
  | nxt b p c=>exact hs
theorem Good.put (h:Good M0 F M st a w) {d:Nat} {s:S} {v:Value} (hd:d<st.length) (hnb:∀ cs,get st d ≠ .box cs) (hf:Fresh s) (hs:SlotOK M w st a v s)
    (ho:∀ k b,owns (st.set d s) (a.put (some d) v) w d k b->¬ F b/\∀ j l,j≠d->¬ owns st a w j l b)
    (ho2:∀ k l b,owns (st.set d s) (a.put (some d) v) w d k b->owns (st.set d s) (a.put (some d) v) w d l b->k=l) :
    Good M0 F M (st.set d s) (a.put (some d) v) w:=by
  have hda:d<a.tmps.size:=by rw [h.size];exact hd
  have hpin:∀ j v',M0.pin j=some v'->tm (a.put (some d) v) j=v'/\isBox (get (st.set d s) j)=true:=fun j v' hj=>by
    obtain ⟨h1,h2⟩:=h.pin j v' hj
    have hne:j≠d:=fun e=>by
      subst e
      cases e':get st j<;>rw [e'] at h2<;>simp [isBox] at h2
      exact hnb _ e'
    rw [tm_put_ne a v hne,get_set_ne st s hne]
    exact ⟨h1,h2⟩
  refine ⟨h.defers,by simp [Act.put,h.size],h.room,h.base,h.up,h.lt,h.down,fun i=>?_,fun i k j l b h1 h2=>?_,fun i k b h1=>?_,h.keep,hpin,h.dm⟩
  . by_cases hi:i=d
    . subst hi
      rw [get_set st _ _ s hd,if_pos rfl,tm_put a _ _ v hda,if_pos rfl]
      exact slot_self hd hnb hs hf
    . rw [get_set_ne st s hi,tm_put_ne a v hi]
      exact SlotOK.keep (stable_refl M w) (turn_put hd hf hnb) rfl rfl (h.slot i) fun _ _ _=>⟨rfl,fun _ h=>h⟩
  . by_cases hi:i=d
    . subst hi
      by_cases hj:j=i
      . subst hj;exact ⟨rfl,ho2 k l b h1 h2⟩
      . exact absurd (owns_put hj h2) ((ho k b h1).2 j l hj)
    . by_cases hj:j=d
      . subst hj;exact absurd (owns_put hi h1) ((ho l b h2).2 i k hi)
      . exact h.one i k j l b (owns_put hi h1) (owns_put hj h2)
  . by_cases hi:i=d
    . subst hi;exact (ho k b h1).1
    . exact h.new i k b (owns_put hi h1)
theorem not_owns_plain {d:Nat} {s:S} {v:Value} (hd:d<st.length) (hp:plain s=true) {k:Option Nat} {b:Nat}:¬ owns (st.set d s) (a.put (some d) v) w d k b:=by
  intro h
  cases k with
  | none =>
    have e:=h.1
    rw [get_set st _ _ s hd,if_pos rfl] at e
    cases s<;>simp [plain] at hp<;>simp [ownS] at e
  | some k =>
    obtain ⟨cs,c0,c,u,e,_⟩:=h
    rw [get_set st _ _ s hd,if_pos rfl] at e;subst e;simp [plain] at hp
theorem fresh_plain {s:S} (hp:plain s=true):Fresh s:=by cases s<;>first|trivial|simp [plain] at hp
theorem Good.put_plain (h:Good M0 F M st a w) {d:Nat} {s:S} {v:Value} (hd:d<st.length) (hnb:∀ cs,get st d ≠ .box cs) (hp:plain s=true) (hs:SlotOK M w st a v s) :
    Good M0 F M (st.set d s) (a.put (some d) v) w :=
  h.put hd hnb (fresh_plain hp) hs (fun _ _ h=>absurd h (not_owns_plain hd hp)) (fun _ _ _ h=>absurd h (not_owns_plain hd hp))
theorem owns_world {w':World} (hk:∀ i b,owns st a w i none b->w'.heap[b]? = w.heap[b]?) {i:Nat} {k:Option Nat} {b:Nat} (h:owns st a w' i k b):owns st a w i k b:=by
  cases k with
  | none=>exact h
  | some k =>
    obtain ⟨cs,c0,c,v,e1,e2,e0,e3,e4,e5⟩:=h
    refine ⟨cs,c0,c,v,e1,e2,e0,e3,?_,e5⟩
    have:=hk i c ⟨by rw [e1];rfl,e3⟩
    rw [<- e4]
    exact (World.cell?_of_block (a:=⟨c,k,none⟩) this).symm
theorem turn_world {w':World} (hk:∀ i b,owns st a w i none b->w'.heap[b]? = w.heap[b]?):Turn st a w st a w' :=
  ⟨fun _ _ _ e=>⟨e,rfl⟩,fun h cs k u ys e1 e2=>⟨cs,e1,e2,rfl,fun b hb=>World.cell?_of_block (a:=⟨b,k,none⟩) (hk h b ⟨by rw [e1];rfl,hb⟩)⟩,
   fun _ _ ys e=>⟨ys,e,rfl⟩,fun h cs k u ys e1 e2=>⟨cs,ys,e1,e2,rfl,fun b hb=>World.cell?_of_block (a:=⟨b,k,none⟩) (hk h b ⟨by rw [e1];rfl,hb⟩)⟩,fun _ cs e=>⟨⟨cs,e⟩,rfl⟩⟩
theorem Good.world (h:Good M0 F M st a w) {M':Mut} {w':World} (hs:Stable M w M' w') (hsz:w.heap.size<=w'.heap.size)
    (hup:∀ b o,M0.mu b o->M' b o) (hlt:∀ b o,M' b o->b<w'.heap.size) (hdn:∀ b o,F b->M' b o->M0.mu b o)
    (hD:KeepsD w w') (hk:∀ i k b,owns st a w i k b->w'.heap[b]? = w.heap[b]? /\ ∀ o,M b o->M' b o):Good M0 F M' st a w':=by
  have hk':∀ i b,owns st a w i none b->w'.heap[b]? = w.heap[b]? := fun i b ho=>(hk i none b ho).1
  exact ⟨h.defers.keep hD,h.size,fun b hb=>Nat.lt_of_lt_of_le (h.room b hb) hsz,h.base,hup,hlt,hdn,
    fun i=>SlotOK.keep hs (turn_world hk') rfl rfl (h.slot i) (hk i),
    fun i k j l b h1 h2=>h.one i k j l b (owns_world hk' h1) (owns_world hk' h2),
    fun i k b h1=>h.new i k b (owns_world hk' h1),h.keep.trans hs,h.pin,h.dm⟩
theorem Good.below (h:Good M0 F M st a w) {w':World} (hb:Below w.heap.size w w'):Good M0 F M st a w':=by
  refine h.world (stable_below hb) hb.size h.up (fun b o hm=>Nat.lt_of_lt_of_le (h.lt b o hm) hb.size) h.down (KeepsD.below hb) fun i k b ho=>⟨?_,fun _ h=>h⟩
  exact hb.block b (owns_lt h.slot ho)
theorem turn_st {st':St} (hown:∀ h u ys,get st' h = .own u ys false->get st h = .own u ys false)
    (hcell:∀ (h:Nat) (cs:List C) (k:Nat) (u:Ty) (ys:List u.den),get st' h = .box cs->cs[k]? = some (C.own u ys false)->∃ cs0,get st h = .box cs0/\cs0[k]? = some (C.own u ys false))
    (harr:∀ h u ys,get st' h = .arr u ys false->∃ ys0,get st h = .arr u ys0 false)
    (hcellA:∀ (h:Nat) (cs:List C) (k:Nat) (u:Ty) (ys:List u.den),get st' h = .box cs->cs[k]? = some (C.arr u ys false)->∃ (cs0:List C) (ys0:List u.den),get st h = .box cs0/\cs0[k]? = some (C.arr u ys0 false))
    (hbox:∀ h cs,get st h = .box cs->∃ cs',get st' h = .box cs'):Turn st a w st' a w :=
  ⟨fun h u ys e=>⟨hown h u ys e,rfl⟩,fun h cs k u ys e1 e2=>let ⟨cs0,f1,f2⟩:=hcell h cs k u ys e1 e2;⟨cs0,f1,f2,rfl,fun _ _=>rfl⟩,
   fun h u ys e=>let ⟨ys0,f⟩:=harr h u ys e;⟨ys0,f,rfl⟩,fun h cs k u ys e1 e2=>let ⟨cs0,ys0,f1,f2⟩:=hcellA h cs k u ys e1 e2;⟨cs0,ys0,f1,f2,rfl,fun _ _=>rfl⟩,fun h cs e=>⟨hbox h cs e,rfl⟩⟩
theorem Good.less (h:Good M0 F M st a w) {st':St} (hlen:st'.length=st.length) (ht:Turn st a w st' a w)
    (hslot:∀ i,get st' i≠get st i->SlotOK M w st' a (tm a i) (get st' i))
    (howns:∀ i k b,owns st' a w i k b->owns st a w i k b):Good M0 F M st' a w:=by
  refine ⟨h.defers,by rw [h.size,hlen],h.room,h.base,h.up,h.lt,h.down,fun i=>?_,fun i k j l b h1 h2=>h.one i k j l b (howns _ _ _ h1) (howns _ _ _ h2),fun i k b h1=>h.new i k b (howns _ _ _ h1),h.keep,fun j v hj=>?_,h.dm⟩
  rotate_left
  . obtain ⟨h1,h2⟩:=h.pin j v hj
    refine ⟨h1,?_⟩
    cases e':get st j<;>rw [e'] at h2<;>simp [isBox] at h2
    obtain ⟨⟨cs',f1⟩,_⟩:=ht.box j _ e'
    rw [f1];rfl
  by_cases e:get st' i=get st i
  . rw [e]
    exact SlotOK.keep (stable_refl M w) ht rfl rfl (h.slot i) fun _ _ _=>⟨rfl,fun _ h=>h⟩
  . exact hslot i e
theorem repV_list {t:Ty} {v:Value} {xs:List t.den} (h:RepC M w (.list t) [v] xs):RepV M w (.list t) v xs:=⟨[v],rfl,h⟩
theorem repC_list {t:Ty} {v:Value} {xs:List t.den} (h:RepV M w (.list t) v xs):RepC M w (.list t) [v] xs:=by
  obtain ⟨cs,e,h⟩:=h
  have hl:=RepC.length _ _ _ h
  match cs,hl with
  | [u],_=>have:v=u:=e;rw [this];exact h
theorem Good.demote (h:Good M0 F M st a w) {i:Nat} {t0:Ty} {xs0:List t0.den} {hh:Bool} (hg:get st i = .own t0 xs0 hh) {t:Ty} {xs:List t.den} (hr:RepC M w (.list t) [tm a i] xs) :
    Good M0 F M (st.set i (.d (.list t) xs)) a w/\∀ b,ownB (tm a i)=some b->∀ j l,¬ owns (st.set i (.d (.list t) xs)) a w j l b:=by
  have hi:i<st.length:=by
    rcases Nat.lt_or_ge i st.length with h'|h'
    . exact h'
    . rw [get_oob h'] at hg;cases hg
  have hset:∀ j,get (st.set i (.d (.list t) xs)) j=if j=i then .d (.list t) xs else get st j:=fun j=>get_set st i j _ hi
  have howns:∀ j k b,owns (st.set i (.d (.list t) xs)) a w j k b->owns st a w j k b/\j≠i:=by
    intro j k b ho
    by_cases hj:j=i
    . subst hj
      exfalso
      cases k with
      | none =>
        have e:=ho.1
        rw [hset,if_pos rfl] at e;simp [ownS] at e
      | some k=>obtain ⟨cs,c0,c,v,e,_⟩:=ho;rw [hset,if_pos rfl] at e;cases e
    . refine ⟨?_,hj⟩
      cases k with
      | none=>simpa only [owns,hset,if_neg hj] using ho
      | some k=>simpa only [owns,hset,if_neg hj] using ho
  refine ⟨h.less (by simp) (turn_st ?_ ?_ ?_ ?_ ?_) ?_ fun j k b ho=>(howns j k b ho).1,?_⟩
  . intro h' u ys e
    rw [hset] at e;split at e
    . cases e
    . exact e
  . intro h' cs k u ys e1 e2
    rw [hset] at e1;split at e1
    . cases e1
    . exact ⟨cs,e1,e2⟩
  . intro h' u ys e
    rw [hset] at e;split at e
    . cases e
    . exact ⟨ys,e⟩
  . intro h' cs k u ys e1 e2
    rw [hset] at e1;split at e1
    . cases e1
    . exact ⟨cs,ys,e1,e2⟩
  . intro h' cs e
    refine ⟨cs,?_⟩
    rw [hset,if_neg]
    . exact e
    . intro e';subst e';rw [hg] at e;cases e
  . intro j hne
    rw [hset] at hne ⊢
    by_cases hj:j=i
    . subst hj
      rw [if_pos rfl]
      exact repV_list hr
    . rw [if_neg hj] at hne;exact absurd rfl hne
  . intro b hb j l ho
    obtain ⟨h1,h2⟩:=howns j l b ho
    exact h2 (h.one j l i none b h1 ⟨by rw [hg];rfl,hb⟩).1
theorem Good.demoteC (h:Good M0 F M st a w) {i k:Nat} {cs:List C} {t0:Ty} {xs0:List t0.den} {hh:Bool} (hg:get st i = .box cs) (hc:cs[k]? = some (.own t0 xs0 hh))
    {t:Ty} {xs:List t.den} (hr:∀ c v,ownB (tm a i)=some c->w.cell? ⟨c,k,none⟩=some v->RepC M w (.list t) [v] xs) :
    Good M0 F M (st.set i (.box (cs.set k (.d (.list t) xs)))) a w /\
    ∀ c v b,ownB (tm a i)=some c->w.cell? ⟨c,k,none⟩=some v->ownB v=some b->∀ j l,¬ owns (st.set i (.box (cs.set k (.d (.list t) xs)))) a w j l b:=by
  have hi:i<st.length:=by
    rcases Nat.lt_or_ge i st.length with h'|h'
    . exact h'
    . rw [get_oob h'] at hg;cases hg
  have hkl:k<cs.length:=(List.getElem?_eq_some_iff.1 hc).1
  have hset:∀ j,get (st.set i (.box (cs.set k (.d (.list t) xs)))) j=if j=i then .box (cs.set k (.d (.list t) xs)) else get st j:=fun j=>get_set st i j _ hi
  have hcs:∀ (l:Nat) c0,ownC c0=true->(cs.set k (.d (.list t) xs))[l]? = some c0->cs[l]? = some c0/\l≠k:=by
    intro l c0 h0 e
    by_cases hl:l=k
    . subst hl;rw [List.getElem?_set_self hkl] at e;cases e;simp [ownC] at h0
    . rw [List.getElem?_set_ne (Ne.symm hl)] at e;exact ⟨e,hl⟩
  have howns:∀ j l b,owns (st.set i (.box (cs.set k (.d (.list t) xs)))) a w j l b->owns st a w j l b/\¬ (j=i/\l=some k):=by
    intro j l b ho
    by_cases hj:j=i
    . subst hj
      cases l with
      | none=>exact ⟨⟨by rw [hg];rfl,ho.2⟩,fun e=>by cases e.2⟩
      | some l =>
        obtain ⟨cs',c0,c,v,e1,e2,e0,e3,e4,e5⟩:=ho
        rw [hset,if_pos rfl] at e1
        cases e1
        obtain ⟨f1,f2⟩:=hcs l c0 e0 e2
        exact ⟨⟨cs,c0,c,v,hg,f1,e0,e3,e4,e5⟩,fun e=>f2 (by simpa using e.2)⟩
    . refine ⟨?_,fun e=>hj e.1⟩
      cases l with
      | none=>simpa only [owns,hset,if_neg hj] using ho
      | some l=>simpa only [owns,hset,if_neg hj] using ho
  refine ⟨h.less (by simp) (turn_st ?_ ?_ ?_ ?_ ?_) ?_ fun j k b ho=>(howns j k b ho).1,?_⟩
  . intro h' u ys e
    rw [hset] at e;split at e
    . cases e
    . exact e
  . intro h' cs' l u ys e1 e2
    rw [hset] at e1;split at e1
    . rename_i e;subst e;cases e1
      exact ⟨cs,hg,(hcs l _ rfl e2).1⟩
    . exact ⟨cs',e1,e2⟩
  . intro h' u ys e
    rw [hset] at e;split at e
    . cases e
    . exact ⟨ys,e⟩
  . intro h' cs' l u ys e1 e2
    rw [hset] at e1;split at e1
    . rename_i e;subst e;cases e1
      exact ⟨cs,ys,hg,(hcs l _ rfl e2).1⟩
    . exact ⟨cs',ys,e1,e2⟩
  . intro h' cs' e
    rw [hset];split
    . exact ⟨_,rfl⟩
    . exact ⟨cs',e⟩
  . intro j hne
    rw [hset] at hne ⊢
    by_cases hj:j=i
    . subst hj
      rw [if_pos rfl]
      have hs:=h.slot j
      rw [hg] at hs
      obtain ⟨b,T,cells,e1,e2,e3,e4,e5⟩:=hs
      refine ⟨b,T,cells,e1,e2,by simpa using e3,e4,fun l c u hl hu=>?_⟩
      by_cases hlk:l=k
      . subst hlk
        rw [List.getElem?_set_self hkl] at hl
        cases hl
        exact hr b u (by rw [e1];rfl) (by rw [cell_of_row w b l cells T (0,0) e2];exact hu)
      . rw [List.getElem?_set_ne (Ne.symm hlk)] at hl
        exact e5 l c u hl hu
    . rw [if_neg hj] at hne;exact absurd rfl hne
  . intro c v b hc1 hc2 hb j l ho
    obtain ⟨h1,h2⟩:=howns j l b ho
    obtain ⟨f1,f2⟩:=h.one j l i (some k) b h1 ⟨cs,_,c,v,hg,hc,rfl,hc1,hc2,hb⟩
    exact h2 ⟨f1,f2⟩
theorem Good.put_own (h:Good M0 F M st a w) {d:Nat} {t:Ty} {xs:List t.den} {v:Value} (hd:d<st.length) (hnb:∀ cs,get st d ≠ .box cs)
    (hr:RepC M w (.list t) [v] xs) (ho:OwnAt M w t.size v xs.length)
    (hb:∀ b,ownB v=some b->¬ F b/\∀ j l,¬ owns st a w j l b):Good M0 F M (st.set d (.own t xs true)) (a.put (some d) v) w:=by
  have hda:d<a.tmps.size:=by rw [h.size];exact hd
  have key:∀ k b,owns (st.set d (.own t xs true)) (a.put (some d) v) w d k b->k=none/\ownB v=some b:=by
    intro k b hk
    cases k with
    | none=>exact ⟨rfl,by have:=hk.2;rwa [tm_put a _ _ v hda,if_pos rfl] at this⟩
    | some k=>obtain ⟨cs,c0,c,u',e,_⟩:=hk;rw [get_set st _ _ _ hd,if_pos rfl] at e;cases e
  exact h.put hd hnb rfl ⟨hr,ho⟩ (fun k b hk=>⟨(hb b (key k b hk).2).1,fun j l _=>(hb b (key k b hk).2).2 j l⟩)
    (fun k l b h1 h2=>by rw [(key k b h1).1,(key l b h2).1])
end
end Go.V
namespace Go.V
open Go.RowKit (Below)
section
variable {P : Program}
theorem tysOf_agg {f:TypeId->Option Ty}:∀ (off:Nat) (fs:List Field) (t:Ty),tysOf f off fs=some t->t.agg=true
  | _,[],t,h=>by simp [tysOf] at h;subst h;rfl
  | off,x :: xs,t,h=>by
    unfold tysOf at h
    cases hx:f x.type with
    | none=>rw [hx] at h;cases h
    | some u =>
      rw [hx] at h
      dsimp only at h
      split at h
      . cases hr:tysOf f (off+u.size) xs with
        | none=>rw [hr] at h;cases h
        | some r=>rw [hr] at h;cases h;rfl
      . cases h
theorem nprod_agg (e:Ty) (n:Nat):(nprod e n).agg=true:=by cases n<;>rfl
structure TyInfo (P:Program) (T:TypeId) (t:Ty) (m:Nat):Prop where
  info:∃ i,P.info? T=some i/\i.size=t.size/\i.bytes<=1000/\∃ z,i.zero=some z/\z.cells.size=t.size
  desc:∃ d,P.underlying T=some d/\descTy (tyOf P m) d=some t
theorem tyOf_info {n:Nat} {T:TypeId} {t:Ty} (h:tyOf P n T=some t):∃ m,TyInfo P T t m:=by
  cases n with
  | zero=>cases h
  | succ n =>
    unfold tyOf at h
    cases hi:P.info? T with
    | none=>rw [hi] at h;cases h
    | some i =>
      cases hd:P.underlying T with
      | none=>rw [hi,hd] at h;cases h
      | some d =>
        rw [hi,hd] at h
        dsimp only at h
        cases ht:descTy (tyOf P n) d with
        | none=>rw [ht] at h;cases h
        | some u =>
          rw [ht] at h
          dsimp only at h
          split at h
          . rename_i hc
            cases h
            refine ⟨n,⟨i,hi,hc.1,hc.2.1,?_⟩,d,hd,ht⟩
            cases hz:i.zero with
            | none=>rw [hz] at hc;simp at hc
            | some z=>rw [hz] at hc;exact ⟨z,rfl,by simpa using hc.2.2⟩
          . cases h
theorem descTy_list {f:TypeId->Option Ty} {d:TypeDesc} {e:Ty} (h:descTy f d=some (.list e)):∃ E,d = .slice E/\f E=some e/\0<e.size:=by
  cases d with
  | slice E =>
    simp only [descTy] at h
    cases hE:f E with
    | none=>rw [hE] at h;cases h
    | some u =>
      rw [hE] at h
      dsimp only at h
      split at h
      . cases h
      . cases h;exact ⟨E,rfl,hE,by omega⟩
  | struct fs=>have:=tysOf_agg _ _ _ h;simp [Ty.agg] at this
  | array len E =>
    simp only [descTy] at h
    cases hE:f E with
    | none=>rw [hE] at h;cases h
    | some u =>
      rw [hE] at h
      dsimp only at h
      split at h
      . cases h
      . have:=nprod_agg u len;cases h':nprod u len<;>rw [h'] at h this<;>cases h
        simp [Ty.agg] at this
  | _=>simp [descTy] at h
theorem ty_list {n:Nat} {T:TypeId} {e:Ty} (h:tyOf P n T=some (.list e)):∃ E m,P.underlying T=some (.slice E)/\tyOf P m E=some e/\0<e.size:=by
  obtain ⟨m,hi,d,hd,ht⟩:=tyOf_info h
  obtain ⟨E,rfl,h1,h2⟩:=descTy_list ht
  exact ⟨E,m,hd,h1,h2⟩
theorem ty_slice {n:Nat} {T E:TypeId} {t:Ty} (h:tyOf P n T=some t) (hu:P.underlying T=some (.slice E)):∃ e m,t = .list e/\tyOf P m E=some e:=by
  obtain ⟨m,hi,d,hd,ht⟩:=tyOf_info h
  rw [hu] at hd;cases hd
  simp only [descTy] at ht
  cases hE:tyOf P m E with
  | none=>rw [hE] at ht;cases ht
  | some u =>
    rw [hE] at ht
    dsimp only at ht
    split at ht
    . cases ht
    . cases ht;exact ⟨u,m,rfl,hE⟩
theorem ty_info {n:Nat} {T:TypeId} {t:Ty} (h:tyOf P n T=some t):∃ i,P.info? T=some i/\i.size=t.size/\i.bytes<=1000/\∃ z,i.zero=some z/\z.cells.size=t.size :=
  (tyOf_info h).choose_spec.info
theorem run_sizeOf {n:Nat} {T:TypeId} {t:Ty} (h:tyOf P n T=some t) (w:World):(sizeOf T).run P w = .ok t.size w:=by
  obtain ⟨i,h1,h2,_⟩:=ty_info h
  simp [sizeOf,typeInfo,h1,h2]
theorem run_isAgg {n:Nat} {T:TypeId} {t:Ty} (h:tyOf P n T=some t) (w:World):(isAgg T).run P w = .ok t.agg w:=by
  obtain ⟨m,hi,d,hd,ht⟩:=tyOf_info h
  have key:(match d with | .struct _ | .array _ _=>true|_=>false)=t.agg:=by
    cases d with
    | struct fs=>exact (tysOf_agg _ _ _ ht).symm
    | array len E =>
      simp only [descTy] at ht
      cases hE:tyOf P m E with
      | none=>rw [hE] at ht;cases ht
      | some u =>
        rw [hE] at ht
        dsimp only at ht
        split at ht
        . cases ht
        . cases ht;exact (nprod_agg _ _).symm
    | slice E =>
      obtain ⟨e,m,rfl,_⟩:=ty_slice h hd
      rfl
    | _=>simp [descTy] at ht<;>subst ht<;>rfl
  unfold isAgg
  rw [Sem.run_bind,run_underlying hd w]
  cases d<;>simp_all
theorem add_lit (b o n:Nat):(⟨b,o,none⟩:Addr).add n=⟨b,o+n,none⟩:=by unfold Addr.add;split<;>simp_all
theorem run_loadVar {n:Nat} {T:TypeId} {t:Ty} (h:tyOf P n T=some t) {w:World} {b o:Nat} {cs:List Value}
    (hl:cs.length=t.size) (hc:∀ j (hj:j<cs.length),w.cell? ⟨b,o+j,none⟩=some cs[j]) :
    (loadVar T ⟨b,o,none⟩).run P w = .ok (toVal t cs) w:=by
  have hl':(loadCells ⟨b,o,none⟩ cs.length).run P w = .ok cs.toArray w :=
    run_loadCells_list w ⟨b,o,none⟩ cs fun j v hv=>by
      obtain ⟨hj,e⟩:=List.getElem?_eq_some_iff.1 hv
      rw [add_lit,hc j hj,e]
  unfold loadVar toVal
  rw [Sem.run_bind,run_isAgg h w]
  simp only [Result.andThen_ok]
  cases ha:t.agg with
  | true=>simp [run_sizeOf h,<- hl,hl']
  | false =>
    have h1:=agg_false_size ha
    rw [h1] at hl
    match cs,hl with
    | [v],_ =>
      have:=hc 0 (by simp)
      simp at this
      simp [this]
theorem run_storeVar {n:Nat} {T:TypeId} {t:Ty} (h:tyOf P n T=some t) {w:World} {g o:Nat} {cur:Array Value} {E:TypeId} {v:Value}
    (hl:v.cells.size=t.size) (hg:w.heap[g]? = some (.cells cur E (0,0))) (hfit:o+t.size<=cur.size) (h1:∀ u∈v.cells.toList,u.oneCell'=true) :
    (storeVar T ⟨g,o,none⟩ v).run P w = .ok () (w.setRow g (cur.toList.take o++v.cells.toList++cur.toList.drop (o+t.size)).toArray):=by
  have hl2:v.cells.toList.length=t.size:=by simpa using hl
  have:=run_storeCells_at P g o E v.cells.toList 0 cur w hg (by rw [hl2];simpa using hfit) h1
  rw [hl2] at this
  simp only [Nat.add_zero] at this
  unfold storeVar
  rw [Sem.run_bind,run_sizeOf h w]
  simp only [Result.andThen_ok]
  rw [if_neg (by simp [hl])]
  simpa using this
variable {M0 : Base} {F : Nat → Prop} {M : Mut} {st : St} {a : Act} {w : World}
theorem as_ok {t:Ty} {s:S} {v:Value} {x:t.den} (h:SlotOK M w st a v s) (hx:s.as t=some x):RepV M w t v x:=by
  cases s with
  | d u y =>
    simp only [S.as] at hx
    split at hx
    . rename_i e;subst e;cases hx;exact h
    . cases hx
  | own u ys hh =>
    simp only [S.as] at hx
    split at hx
    . rename_i e;subst e;cases hx;exact repV_list h.1
    . cases hx
  | al hm k u ys =>
    simp only [S.as] at hx
    split at hx
    . rename_i e;subst e;cases hx
      cases k with
      | none=>exact repV_list h.1
      | some k=>exact repV_list h.1
    . cases hx
  | nil =>
    simp only [S.as] at hx
    cases t<;>simp at hx
    rename_i e
    cases hx
    have:v = .slice none 0 0:=h
    rw [this]
    exact repV_list (RepC.list_nil e)
  | ref u y =>
    simp only [S.as] at hx
    split at hx
    . rename_i e;subst e;cases hx
      obtain ⟨b,o,cs,e1,e2,e3,e4⟩:=h
      exact ⟨[v],rfl,b,o,cs,by rw [e1],e2,e3,e4⟩
    . cases hx
  | _=>simp [S.as] at hx
theorem repV_int {k:IntKind} {v:Value} {n:Int} (h:RepV M w (.int k) v n):v = .int k n:=by
  obtain ⟨cs,e,h⟩:=h;rw [e,show cs=_ from h];rfl
theorem repV_bool {v:Value} {b:Bool} (h:RepV M w .bool v b):v = .bool b:=by
  obtain ⟨cs,e,h⟩:=h;rw [e,show cs=_ from h];rfl
theorem repV_str {v:Value} {x:List UInt8} (h:RepV M w .str v x):v = .string ⟨⟨x⟩⟩:=by
  obtain ⟨cs,e,h⟩:=h;rw [e,show cs=_ from h];rfl
theorem repV_raw {v:Value} {x:Value} (h:RepV M w .raw v x):v=x:=by
  obtain ⟨cs,e,h⟩:=h;rw [e,show cs=_ from h.1];rfl
theorem mk_int (k:IntKind) (n:Int):RepV M w (.int k) (.int k n) n:=⟨[.int k n],rfl,rfl⟩
theorem mk_bool (b:Bool):RepV M w .bool (.bool b) b:=⟨[.bool b],rfl,rfl⟩
theorem mk_str (x:List UInt8):RepV M w .str (.string ⟨⟨x⟩⟩) x:=⟨[.string ⟨⟨x⟩⟩],rfl,rfl⟩
theorem mk_raw {v:Value} (h:v.cells = #[v]) (h1:v.oneCell'=true):RepV M w .raw v v:=⟨[v],rfl,rfl,h,h1⟩
theorem slot_int {k:IntKind} {v:Value} {n:Int} (h:SlotOK M w st a v (.d (.int k) n)):v = .int k n:=repV_int h
theorem slot_bool {v:Value} {b:Bool} (h:SlotOK M w st a v (.d .bool b)):v = .bool b:=repV_bool h
theorem slot_str {v:Value} {x:List UInt8} (h:SlotOK M w st a v (.d .str x)):v = .string ⟨⟨x⟩⟩:=repV_str h
theorem ofCells_ok:∀ (cs:List Value) (y:(t:Ty)×t.den),ofCells cs=some y->RepC M w y.1 cs y.2/\y.1.agg=true
  | [],y,h=>by simp [ofCells] at h;subst h;exact ⟨rfl,rfl⟩
  | v :: vs,y,h=>by
    unfold ofCells at h
    cases hc:ofCells vs with
    | none=>rw [hc] at h;cases h
    | some z =>
      rw [hc] at h
      obtain ⟨ih,_⟩:=ofCells_ok vs z hc
      cases v<;>dsimp only at h<;>first|(cases h;done)|skip
      . cases h;exact ⟨⟨[_],vs,rfl,rfl,ih⟩,rfl⟩
      . cases h;exact ⟨⟨[_],vs,rfl,rfl,ih⟩,rfl⟩
      . cases h;exact ⟨⟨[_],vs,rfl,rfl,ih⟩,rfl⟩
theorem ofVal_ok (v:Value):SlotOK M w st a v (ofVal v):=by
  cases v with
  | bool b=>exact mk_bool b
  | int k n=>exact mk_int k n
  | string s=>exact mk_str (M:=M) (w:=w) s.data.toList
  | slice p n c =>
    cases p with
    | none =>
      cases n with
      | zero=>cases c with
        | zero=>rfl
        | succ c=>trivial
      | succ n=>trivial
    | some p=>trivial
  | nilFunc=>exact mk_raw rfl rfl
  | nilIface=>exact mk_raw rfl rfl
  | agg cs =>
    simp only [ofVal]
    cases hc:ofCells cs.toList with
    | none=>trivial
    | some y =>
      obtain ⟨h1,h2⟩:=ofCells_ok (M:=M) (w:=w) cs.toList y hc
      exact ⟨cs.toList,by simp [toVal,h2],h1⟩
  | _=>trivial
theorem opnd_ok (h:Good M0 F M st a w) (x:Operand):SlotOK M w st a (a.eval x) (opnd st x):=by
  cases x with
  | tmp t=>exact h.slot t
  | const v=>exact ofVal_ok v
  | global g=>trivial
  | func f=>exact mk_raw rfl rfl
theorem Good.fin (h:Good M0 F M st a w) {dst:Option Nat} {s:S} {v:Value} (hnb:∀ d,dst=some d->isBox (get st d)=false) (hp:plain s=true) (hs:SlotOK M w st a v s) :
    Good M0 F M (app (dst.toList.map (·,s)) st) (a.put dst v) w:=by
  cases dst with
  | none=>exact h
  | some d =>
    show Good M0 F M (st.set d s) (a.put (some d) v) w
    rcases Nat.lt_or_ge d st.length with hd|hd
    . exact h.put_plain hd (fun cs e=>by have:=hnb d rfl;rw [e] at this;cases this) hp hs
    . rw [List.set_eq_of_length_le hd]
      have:a.put (some d) v=a:=by
        have:a.tmps.size<=d:=by rw [h.size];exact hd
        simp only [Act.put,Array.setIfInBounds]
        rw [dif_neg (by omega)]
      rw [this];exact h
theorem Good.fin_own (h:Good M0 F M st a w) {dst:Option Nat} {t:Ty} {xs:List t.den} {v:Value} (hnb:∀ d,dst=some d->isBox (get st d)=false)
    (hr:RepC M w (.list t) [v] xs) (ho:OwnAt M w t.size v xs.length) (hb:∀ b,ownB v=some b->¬ F b/\∀ j l,¬ owns st a w j l b) :
    Good M0 F M (app (dst.toList.map (·,S.own t xs true)) st) (a.put dst v) w:=by
  cases dst with
  | none=>exact h
  | some d =>
    show Good M0 F M (st.set d _) (a.put (some d) v) w
    rcases Nat.lt_or_ge d st.length with hd|hd
    . exact h.put_own hd (fun cs e=>by have:=hnb d rfl;rw [e] at this;cases this) hr ho hb
    . rw [List.set_eq_of_length_le hd]
      have:a.put (some d) v=a:=by
        have:a.tmps.size<=d:=by rw [h.size];exact hd
        simp only [Act.put,Array.setIfInBounds]
        rw [dif_neg (by omega)]
      rw [this];exact h
theorem valOf_ok:∀ (t:Ty) (x:t.den) (cs cs2:List Value),valOf t x=some cs->RepC M w t cs2 x->cs2=cs:=by
  intro t
  induction t with
  | int k=>intro x cs cs2 h1 h2;simp only [valOf,Option.some.injEq] at h1;rw [<- h1];exact h2
  | bool=>intro x cs cs2 h1 h2;simp only [valOf,Option.some.injEq] at h1;rw [<- h1];exact h2
  | str=>intro x cs cs2 h1 h2;simp only [valOf,Option.some.injEq] at h1;rw [<- h1];exact h2
  | unit=>intro x cs cs2 h1 h2;simp only [valOf,Option.some.injEq] at h1;rw [<- h1];exact h2
  | prod p q ihp ihq =>
    intro x cs cs2 h1 h2
    simp only [valOf] at h1
    cases hp:valOf p x.1 with
    | none=>rw [hp] at h1;cases h1
    | some c1 =>
      rw [hp] at h1
      dsimp only at h1
      cases hq:valOf q x.2 with
      | none=>rw [hq] at h1;cases h1
      | some c2 =>
        rw [hq] at h1;cases h1
        obtain ⟨d1,d2,rfl,g1,g2⟩:=h2
        rw [ihp _ _ _ hp g1,ihq _ _ _ hq g2]
  | _=>intro x cs cs2 h1 h2;simp [valOf] at h1
theorem rawOf_ok {s:S} {v u:Value} (h:SlotOK M w st a v s) (hu:rawOf s=some u):v=u:=by
  cases s with
  | d t x =>
    simp only [rawOf] at hu
    split at hu
    . rename_i cs hcs
      cases hu
      obtain ⟨cs2,e1,e2⟩:=h
      rw [e1,valOf_ok t x cs cs2 hcs e2]
    . cases hu
  | _=>simp [rawOf] at hu
theorem arrOf_ok {F:Nat->Prop} (hg:Good M0 F M st a w) {hm:Nat} {k:Option Nat} {y:(t:Ty)×List t.den} (h:arrOf st hm k=some y) :
    ∃ v,ArrAt M w y.1 v y.2/\(∀ u,SlotOK M w st a u (.ar hm k y.1)->u=v) /\
      (∀ u i,SlotOK M w st a u (.ea hm k y.1 i)->∃ g,ownB v=some g/\u = .pointer (some ⟨g,i * y.1.size,none⟩)) /\
      ∀ g i,ownB v=some g->SlotOK M w st a (.pointer (some ⟨g,i * y.1.size,none⟩)) (.ea hm k y.1 i):=by
  unfold arrOf at h
  cases k with
  | none =>
    dsimp only at h
    split at h
    rotate_left
    . cases h
    rename_i t xs e
    cases h
    have hs:=hg.slot hm
    rw [e] at hs
    refine ⟨tm a hm,hs,fun u hu=>(hu xs e).symm,fun u i hu=>hu xs e,fun g i hgv ys hy=>⟨g,hgv,rfl⟩⟩
  | some k =>
    dsimp only at h
    split at h
    rotate_left
    . cases h
    rename_i cs e
    split at h
    rotate_left
    . cases h
    rename_i t xs e2
    cases h
    have hs:=hg.slot hm
    rw [e] at hs
    obtain ⟨b,T,cells,f1,f2,f3,f4,f5⟩:=hs
    have hk:k<cells.size:=by have:=(List.getElem?_eq_some_iff.1 e2).1;omega
    have hv:cells[k]? = some cells[k]:=Array.getElem?_eq_getElem hk
    have hcell:w.cell? ⟨b,k,none⟩=some cells[k]:=by rw [cell_of_row w b k cells T (0,0) f2];exact hv
    have hob:ownB (tm a hm)=some b:=by rw [f1];rfl
    refine ⟨cells[k],f5 k _ _ e2 hv,fun u hu=>?_,fun u i hu=>?_,fun g i hgv cs' ys b' g1 g2 g3=>?_⟩
    . have:=hu cs xs b e e2 hob
      rw [hcell] at this
      exact (Option.some.inj this).symm
    . obtain ⟨u',g,h1,h2,h3⟩:=hu cs xs b e e2 hob
      rw [hcell] at h1
      cases h1
      exact ⟨g,h2,h3⟩
    . rw [hob] at g3
      cases g3
      exact ⟨cells[k],g,hcell,hgv,rfl⟩
theorem Good.put_arr {F:Nat->Prop} (h:Good M0 F M st a w) {d:Nat} {t:Ty} {xs:List t.den} {v:Value} (hd:d<st.length) (hnb:∀ cs,get st d ≠ .box cs)
    (ho:ArrAt M w t v xs) (hb:∀ b,ownB v=some b->¬ F b/\∀ j l,¬ owns st a w j l b):Good M0 F M (st.set d (.arr t xs true)) (a.put (some d) v) w:=by
  have hda:d<a.tmps.size:=by rw [h.size];exact hd
  have key:∀ k b,owns (st.set d (.arr t xs true)) (a.put (some d) v) w d k b->k=none/\ownB v=some b:=by
    intro k b hk
    cases k with
    | none=>exact ⟨rfl,by have:=hk.2;rwa [tm_put a _ _ v hda,if_pos rfl] at this⟩
    | some k=>obtain ⟨cs,c0,c,u',e,_⟩:=hk;rw [get_set st _ _ _ hd,if_pos rfl] at e;cases e
  exact h.put hd hnb rfl ho (fun k b hk=>⟨(hb b (key k b hk).2).1,fun j l _=>(hb b (key k b hk).2).2 j l⟩)
    (fun k l b h1 h2=>by rw [(key k b h1).1,(key l b h2).1])
theorem Good.fin_arr {F:Nat->Prop} (h:Good M0 F M st a w) {dst:Option Nat} {t:Ty} {xs:List t.den} {v:Value} (hnb:∀ d,dst=some d->isBox (get st d)=false)
    (ho:ArrAt M w t v xs) (hb:∀ b,ownB v=some b->¬ F b/\∀ j l,¬ owns st a w j l b) :
    Good M0 F M (app (dst.toList.map (·,S.arr t xs true)) st) (a.put dst v) w:=by
  cases dst with
  | none=>exact h
  | some d =>
    show Good M0 F M (st.set d _) (a.put (some d) v) w
    rcases Nat.lt_or_ge d st.length with hd|hd
    . exact h.put_arr hd (fun cs e=>by have:=hnb d rfl;rw [e] at this;cases this) ho hb
    . rw [List.set_eq_of_length_le hd]
      have:a.put (some d) v=a:=by
        have:a.tmps.size<=d:=by rw [h.size];exact hd
        simp only [Act.put,Array.setIfInBounds]
        rw [dif_neg (by omega)]
      rw [this];exact h
theorem Good.forget {F:Nat->Prop} (h:Good M0 F M st a w) {i:Nat} {t0:Ty} {xs0:List t0.den} {hh:Bool} (hg:get st i = .arr t0 xs0 hh) :
    Good M0 F M (st.set i .und) a w/\∀ b,ownB (tm a i)=some b->¬ F b/\∀ j l,¬ owns (st.set i .und) a w j l b:=by
  have hi:i<st.length:=by
    rcases Nat.lt_or_ge i st.length with h'|h'
    . exact h'
    . rw [get_oob h'] at hg;cases hg
  have hset:∀ j,get (st.set i .und) j=if j=i then .und else get st j:=fun j=>get_set st i j _ hi
  have howns:∀ j k b,owns (st.set i .und) a w j k b->owns st a w j k b/\j≠i:=by
    intro j k b ho
    by_cases hj:j=i
    . subst hj
      exfalso
      cases k with
      | none=>have e:=ho.1;rw [hset,if_pos rfl] at e;simp [ownS] at e
      | some k=>obtain ⟨cs,c0,c,v,e,_⟩:=ho;rw [hset,if_pos rfl] at e;cases e
    . refine ⟨?_,hj⟩
      cases k with
      | none=>simpa only [owns,hset,if_neg hj] using ho
      | some k=>simpa only [owns,hset,if_neg hj] using ho
  refine ⟨h.less (by simp) (turn_st ?_ ?_ ?_ ?_ ?_) ?_ fun j k b ho=>(howns j k b ho).1,?_⟩
  . intro h' u ys e
    rw [hset] at e;split at e
    . cases e
    . exact e
  . intro h' cs k u ys e1 e2
    rw [hset] at e1;split at e1
    . cases e1
    . exact ⟨cs,e1,e2⟩
  . intro h' u ys e
    rw [hset] at e;split at e
    . cases e
    . exact ⟨ys,e⟩
  . intro h' cs k u ys e1 e2
    rw [hset] at e1;split at e1
    . cases e1
    . exact ⟨cs,ys,e1,e2⟩
  . intro h' cs e
    refine ⟨cs,?_⟩
    rw [hset,if_neg]
    . exact e
    . intro e';subst e';rw [hg] at e;cases e
  . intro j hne
    rw [hset] at hne ⊢
    by_cases hj:j=i
    . rw [if_pos hj];trivial
    . rw [if_neg hj] at hne;exact absurd rfl hne
  . intro b hb
    have hown:owns st a w i none b:=⟨by rw [hg];rfl,hb⟩
    refine ⟨h.new i none b hown,fun j l ho=>?_⟩
    obtain ⟨h1,h2⟩:=howns j l b ho
    exact h2 (h.one j l i none b h1 hown).1
theorem Good.freeze {F:Nat->Prop} (h:Good M0 F M st a w) {g n:Nat} (hg:¬ F g) (hn:∀ j l,¬ owns st a w j l g):Good M0 F (fun b o=>M b o/\¬ (b=g/\o<n)) st a w:=by
  refine h.world (fun b o v h1 h2=>⟨h1,fun h3=>h2 h3.1⟩) (Nat.le_refl _) (fun b o hm=>⟨h.up b o hm,fun e=>?_⟩) (fun b o hm=>h.lt b o hm.1) (fun b o hF hm=>h.down b o hF hm.1) (KeepsD.refl w) fun i k b ho=>⟨rfl,fun o hm=>⟨hm,fun e=>?_⟩⟩
  . exact hg (e.1 ▸ h.base b o hm)
  . exact hn i k (e.1 ▸ ho)
theorem arr_own {t:Ty} {v:Value} {xs:List t.den} (h:ArrAt M w t v xs) {M':Mut} (hM:∀ g,ownB v=some g->∀ b o,M' b o<->(M b o/\¬ (b=g/\o<xs.length * t.size)))
    (hs:Stable M w M' w):RepC M' w (.list t) [v] xs/\OwnAt M' w t.size v xs.length:=by
  rcases h with ⟨e1,e2⟩|⟨g,cap,cells,T,e1,e2,e3,e4,e5,e6,e7⟩
  . subst e1;subst e2
    exact ⟨RepC.list_nil t,.inl ⟨rfl,rfl⟩⟩
  . have hM':=hM g (by rw [e1];rfl)
    refine ⟨⟨some ⟨g,0,none⟩,cap,by rw [e1],e3,fun i hi=>⟨g,0,_,rfl,RepC.length _ _ _ (e7 i hi),fun j hj=>?_,RepC.mono hs _ _ _ (e7 i hi)⟩⟩,
      .inr ⟨g,cap,cells,T,e1,e2,e3,e4,e5,fun o ho=>(hM' g o).2 ⟨e6 o,fun e=>by omega⟩⟩⟩
    have hjl:j<t.size:=by have:=RepC.length _ _ _ (e7 i hi);omega
    have hbound:i * t.size+j<xs.length * t.size:=by
      have:(i+1) * t.size<=xs.length * t.size:=Nat.mul_le_mul_right _ hi
      rw [Nat.add_mul] at this
      omega
    refine ⟨?_,fun hm=>((hM' g _).1 hm).2 ⟨rfl,by omega⟩⟩
    rw [cell_of_row w g _ cells T (0,0) e2]
    rw [Nat.zero_add]
    have hj':j<((cells.toList.drop (i * t.size)).take t.size).length:=hj
    have:((cells.toList.drop (i * t.size)).take t.size)[j]? = cells.toList[i * t.size+j]? := by
      rw [List.getElem?_take,if_pos hjl,List.getElem?_drop]
    rw [List.getElem?_eq_getElem hj'] at this
    rw [this]
    simp
end
end Go.V
