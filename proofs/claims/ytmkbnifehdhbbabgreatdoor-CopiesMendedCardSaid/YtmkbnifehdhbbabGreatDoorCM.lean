/- A part of the proof of a law of the copies. -/
import Derived.Test.YtmkbnifehdhbbabGreatDoorVV
import Derived.Test.YtmkbnifehdhbbabGreatDoorC1
import Derived.Test.YtmkbnifehdhbbabGreatDoorCG
import Derived.Test.YtmkbnifehdhbbabGreatDoorVI
import Derived.Maps.Keyed
import Derived.DeepKeys4
set_option linter.all false
noncomputable section
namespace Go.V
open Go.Proofs
open Go.RowKit (Below)
abbrev TRT:Ty:=.prod TREET (.prod (.list (.list (.int .i64))) .unit)
abbrev RDT:Ty:=.prod TRT (.prod (.int .i64) (.prod .raw .unit))
abbrev SPT:Ty:=.prod (.int .i64) (.prod (.int .i64) .unit)
abbrev TREE:Type:=Int×List (Int×List Int×Unit)×Unit
abbrev TR:Type:=TREE×List (List Int)×Unit
def seenAt (t:TREE) (fr place:Int):Int:=((t.2.1.getD fr.toNat (0,([],()))).2.1).getD place.toNat 0
def fitsV (t:TREE) (place fr fg:Int):Bool:=seenAt t fr place == -1 || seenAt t fr place==fg
def sumV (l:List Int):Int:=l.foldl (fun n x=>if n+x<1000 then n+x else 1000) 0
def stepOf (f:Int->Int->Int) (c g parent:Int):Int:=if g=parent then f c g else sumV [f c g,1]
def fewOf (f:Int->Int->Int) (c parent:Int):Int:=(List.range 10).foldl (fun n (g:Nat)=>if stepOf f c g parent<n then stepOf f c g parent else n) 1000
def leastV (d:TR) (place:Int):Nat->Int->Int->Int
 | 0=>fun _ _=>0
 | n+1=>fun fr fg=>sumV ((if fitsV d.1 place fr fg then [] else [1000])++(d.2.1.getD fr.toNat []).map fun c=>fewOf (leastV d place n) c fg)
def LV (d:TR) (place fr fg:Int):Int:=leastV d place d.1.2.1.length fr fg
structure RdOK (d:TR) (place:Int):Prop where
 len:d.1.2.1.length<=1000
 made:d.2.1.length=d.1.2.1.length
 kids:∀ i,i<d.1.2.1.length->(d.2.1.getD i []).length<=1000/\∀ c∈d.2.1.getD i [],(i:Int)<c/\c<d.1.2.1.length
 pos:0<=place
 seen:∀ i,i<d.1.2.1.length->place<((d.1.2.1.getD i (0,([],()))).2.1).length
theorem foldl_sum_le:∀ (l:List Int) (n:Int),n<=1000->l.foldl (fun n x=>if n+x<1000 then n+x else 1000) n<=1000
 | [],n,h=>h
 | x :: l,n,h=>foldl_sum_le l _ (by dsimp only;split<;>omega)
theorem foldl_sum_ge:∀ (l:List Int) (n:Int),0<=n->(∀ x∈l,0<=x)->0<=l.foldl (fun n x=>if n+x<1000 then n+x else 1000) n
 | [],n,h,_=>h
 | x :: l,n,h,hx=>foldl_sum_ge l _ (by have:=hx x (by simp);dsimp only;split<;>omega) fun y hy=>hx y (by simp [hy])
theorem sumV_le (l:List Int):sumV l<=1000:=foldl_sum_le l 0 (by omega)
theorem sumV_ge {l:List Int} (h:∀ x∈l,0<=x):0<=sumV l:=foldl_sum_ge l 0 (by omega) h
theorem fewOf_bd {f:Int->Int->Int} {c p:Int} (h:∀ g:Nat,0<=f c g):0<=fewOf f c p/\fewOf f c p<=1000:=by
 unfold fewOf;have key:∀ (l:List Nat) (n:Int),0<=n/\n<=1000->0<=l.foldl (fun n (g:Nat)=>if stepOf f c g p<n then stepOf f c g p else n) n/\l.foldl (fun n (g:Nat)=>if stepOf f c g p<n then stepOf f c g p else n) n<=1000:=by
  intro l
  induction l with
  | nil=>intro n h;exact h
  | cons g l ih =>
   intro n hn;refine ih _ ?_;dsimp only;split
   . rename_i hlt;refine ⟨?_,by omega⟩;unfold stepOf;split
     . exact h g
     . exact sumV_ge (by intro x hx;simp at hx;have:=h g;omega)
   . exact hn
 exact key _ _ (by omega)
theorem leastV_bd (d:TR) (place:Int):∀ (n:Nat) (fr fg:Int),0<=leastV d place n fr fg/\leastV d place n fr fg<=1000
 | 0,_,_=>⟨by simp [leastV],by simp [leastV]⟩
 | n+1,fr,fg=>by
  unfold leastV;refine ⟨sumV_ge fun x hx=>?_,sumV_le _⟩;rcases List.mem_append.1 hx with hx|hx
  . split at hx
    . cases hx
    . rw [List.mem_singleton] at hx;omega
  . obtain ⟨c,_,rfl⟩:=List.mem_map.1 hx;exact (fewOf_bd fun g=>(leastV_bd d place n _ _).1).1
theorem LV_bd (d:TR) (place fr fg:Int):0<=LV d place fr fg/\LV d place fr fg<=1000:=leastV_bd d place _ fr fg
theorem stepOf_congr {f f':Int->Int->Int} {c:Int} (h:∀ g:Int,f c g=f' c g) (g p:Int):stepOf f c g p=stepOf f' c g p:=by
 unfold stepOf;rw [h]
theorem fewOf_congr {f f':Int->Int->Int} {c:Int} (h:∀ g:Int,f c g=f' c g) (p:Int):fewOf f c p=fewOf f' c p:=by
 unfold fewOf;simp only [stepOf_congr h]
theorem leastV_deep {d:TR} {place:Int} (hd:RdOK d place):∀ (m n:Nat) (fr:Int) (fg:Int),0<=fr->fr<d.1.2.1.length->(d.1.2.1.length:Int) - fr<=m->(d.1.2.1.length:Int) - fr<=n->leastV d place m fr fg=leastV d place n fr fg:=by
 intro m
 induction m with
 | zero=>intro n fr fg h0 h h1;omega
 | succ m ih =>
  intro n fr fg h0 h h1 h2;cases n with
  | zero=>omega
  | succ n =>
   have hk:=(hd.kids fr.toNat (by omega)).2;have e:((d.2.1.getD fr.toNat []).map fun c=>fewOf (leastV d place m) c fg)=(d.2.1.getD fr.toNat []).map fun c=>fewOf (leastV d place n) c fg:=by
    apply List.map_congr_left;intro c hc;have:=hk c hc;exact fewOf_congr (fun g=>ih n c g (by omega) (by omega) (by omega) (by omega)) fg
   simp only [leastV];rw [e]
theorem LV_eq {d:TR} {place:Int} (hd:RdOK d place) {fr fg:Int} (h0:0<=fr) (h:fr<d.1.2.1.length) :
 LV d place fr fg=sumV ((if fitsV d.1 place fr fg then [] else [1000])++(d.2.1.getD fr.toNat []).map fun c=>fewOf (LV d place) c fg):=by
 have e:LV d place fr fg=leastV d place (d.1.2.1.length+1) fr fg:=leastV_deep hd _ _ fr fg h0 h (by omega) (by omega);rw [e];rfl
theorem laidOut:laidOutB Tryz.prog=true:=by kernel_rfl
theorem law126:Maps.Keyed Tryz.prog 137:=Maps.Keyed.of_law (deep_law_laid laidOut (m:=2) (by omega) (of_decide_eq_true (by kernel_rfl)) (by kernel_rfl) (by kernel_rfl))
def pairV (a b:Int):Value:=.agg #[.int .i64 a,.int .i64 b]
def rng (n:Int):Bool:=decide (-9223372036854775808<=n) && decide (n<=9223372036854775807)
theorem rng_wf {n:Int} (h:rng n=true):(Lit.int .i64 n).wf=true:=by
 simp only [rng,Bool.and_eq_true,decide_eq_true_eq] at h;have h1:IntKind.min .i64 = -9223372036854775808:=rfl;have h2:IntKind.max .i64=9223372036854775807:=rfl;simp [Lit.wf,h1,h2,h]
theorem und126:Tryz.prog.underlying 137=some (.struct ((Tryz.prog.underlying 137).elim #[] fun d=>match d with | .struct fs=>fs|_ => #[])):=by kernel_rfl
def keyOne (n:Int):Option (List Lit):=if IntKind.i64=IntKind.i64/\(Lit.int .i64 n).wf=true then some [Lit.int .i64 n] else none
theorem kl126 (a b:Int):Tryz.prog.keyLits (Tryz.prog.types.size+1) 137 (pairV a b).cells.toList=(([keyOne a,keyOne b]).mapM id).map List.flatten:=by kernel_rfl
theorem kf126 (a b:Int):(Tryz.prog.keyType 137 && (pairV a b).formed Tryz.prog 137)=true:=by kernel_rfl
theorem key126 {a b:Int} (ha:rng a=true) (hb:rng b=true):∃ l,keyOf Tryz.prog 137 (pairV a b)=some l:=by
 have h1:=rng_wf ha;have h2:=rng_wf hb;unfold keyOf;rw [und126,kf126,kl126];simp [keyOne,h1,h2]
def Memo (g:Int->Int->Int) (es:Array MapEntry):Prop :=
 ∀ e∈es.toList,∃ a b,rng a=true/\rng b=true/\e.key=pairV a b/\e.val = .int .i64 (g a b)
theorem pairV_inj {a b a' b':Int} (h:pairV a b=pairV a' b'):a=a'/\b=b':=by
 simp only [pairV,Value.agg.injEq] at h;have h1:=congrArg (·.toList) h;simp at h1;exact h1
theorem memo_keys {g:Int->Int->Int} {es:Array MapEntry} (h:Memo g es):∀ e∈es.toList,∃ l,keyOf Tryz.prog 137 e.key=some l:=fun e he=>by
 obtain ⟨a,b,ha,hb,hk,_⟩:=h e he;rw [hk];exact key126 ha hb
theorem und89:Tryz.prog.underlying 100=some (.map 137 3):=by kernel_rfl
theorem zero3 (w:World):(zeroValue 3).run Tryz.prog w = .ok (.int .i64 0) w:=by kernel_rfl
theorem memo_look {g:Int->Int->Int} {es:Array MapEntry} {clock bm:Nat} {w:World} {a b:Int} (hb:w.heap[bm]? = some (.map es clock)) (hm:Memo g es) (h1:rng a=true) (h2:rng b=true) :
 (Instr.lookup 100 (.map (some bm)) (pairV a b) true).run Tryz.prog w = .ok (.tuple #[.int .i64 0,.bool false]) w\/(Instr.lookup 100 (.map (some bm)) (pairV a b) true).run Tryz.prog w = .ok (.tuple #[.int .i64 (g a b),.bool true]) w:=by
 obtain ⟨l,hl⟩:=key126 h1 h2;rcases law126.find w hl es.toList (memo_keys hm) with ⟨g1,g2⟩|⟨j,e0,g1,g2,g3⟩
 . left;simp [Instr.lookup,run_underlying und89,MapKept.run_getObj_map hb,law126.check w _ hl,g1,zero3,Result.andThen]
 . right;obtain ⟨a',b',_,_,hk,hv⟩:=hm e0 (List.mem_of_getElem? g2);obtain ⟨rfl,rfl⟩:=pairV_inj (hk.symm.trans g3);simp [Instr.lookup,run_underlying und89,MapKept.run_getObj_map hb,law126.check w _ hl,g1,Result.andThen,hv]
theorem memo_put {g:Int->Int->Int} {es:Array MapEntry} {clock bm:Nat} {w:World} {a b:Int} (hb:w.heap[bm]? = some (.map es clock)) (hm:Memo g es) (h1:rng a=true) (h2:rng b=true) :
 ∃ es' clock',(Instr.mapUpdate 100 (.map (some bm)) (pairV a b) (.int .i64 (g a b))).run Tryz.prog w = .ok () (w.putObj bm (.map es' clock'))/\Memo g es':=by
 obtain ⟨l,hl⟩:=key126 h1 h2;rcases law126.find w hl es.toList (memo_keys hm) with ⟨g1,g2⟩|⟨j,e0,g1,g2,g3⟩
 . refine ⟨es.push ⟨pairV a b,.int .i64 (g a b),clock⟩,clock+1,?_,?_⟩
   . simp [Instr.mapUpdate,run_underlying und89,MapKept.run_getObj_map hb,law126.check w false hl,g1,MapKept.run_setObj_map _ hb,Result.andThen,World.putObj]
   . intro e he;simp only [Array.toList_push,List.mem_append,List.mem_singleton] at he;rcases he with he|rfl
     . exact hm e he
     . exact ⟨a,b,h1,h2,rfl,rfl⟩
 . have hj:es[j]? = some e0:=by simpa using g2
   refine ⟨es.modify j fun e=>{ e with key:=pairV a b,val:=.int .i64 (g a b) },clock,?_,?_⟩
   . simp [Instr.mapUpdate,run_underlying und89,MapKept.run_getObj_map hb,law126.check w false hl,g1,hj,g3,law126.stays w hl,MapKept.run_setObj_map _ hb,Result.andThen,World.putObj]
   . intro e he;obtain ⟨i,hi⟩:=List.mem_iff_getElem?.1 he;have hi':(es.modify j fun e=>{ e with key:=pairV a b,val:=.int .i64 (g a b) })[i]? = some e:=by rw [<- Array.getElem?_toList];exact hi
     rw [Array.getElem?_modify] at hi';split at hi'
     . cases hx:es[i]? with
       | none=>rw [hx] at hi';cases hi'
       | some e1=>rw [hx] at hi';cases hi';exact ⟨a,b,h1,h2,rfl,rfl⟩
     . exact hm e (List.mem_of_getElem? (by simpa using hi'))
abbrev SM:Type:=Nat×TR×Int
def gOf (s:SM):Int->Int->Int:=LV s.2.1 s.2.2
def HM:Hole where
 σ:=SM
 hb s _ b:=b=s.1
 I s _ w:=∃ es clock,w.heap[s.1]? = some (.map es clock)/\Memo (gOf s) es
 keep s M w M' w' h _ hk:=by
  obtain ⟨es,c,h1,h2⟩:=h;exact ⟨es,c,(hk s.1 rfl).trans h1,h2⟩
 same s M w w' _ _ b h:=h
 lt s M w b h hb:=by
  obtain ⟨es,c,h1,h2⟩:=h;subst hb;exact (Array.getElem?_eq_some_iff.1 h1).1
 nd s M w b c h hb:=by
  obtain ⟨es,c',h1,h2⟩:=h;subst hb;rw [h1];simp
theorem HM_free:HM.Free:=⟨fun s M w M' w' h hk=>by
 obtain ⟨es,c,h1,h2⟩:=h;exact ⟨es,c,(hk s.1 rfl).trans h1,h2⟩,fun _ _ _ _ h=>h⟩
def isMap (v:Value) (b:Nat):Bool:=match v with | .map (some b')=>b'==b|_=>false
theorem isMap_eq {v:Value} {b:Nat} (h:isMap v b=true):v = .map (some b):=by
 unfold isMap at h;split at h
 . simp at h;rw [h]
 . cases h
abbrev NBT:Ty:=.prod (.int .i64) (.prod .bool .unit)
def lookG (d a b:Nat) (s:HM.σ) (st:St):Bool×Outs HM :=
 match get st a with
 | .d .raw v=>(match get st b with
  | .d (.prod (.int .i64) (.prod (.int .i64) .unit)) x=>(!isBox (get st d) && (isMap v s.1 && (rng x.1 && rng x.2.1)),.some [(s,st.set d (.tup NBT (gOf s x.1 x.2.1,(true,())))),(s,st.set d (.tup NBT ((0:Int),(false,()))))])
  | _=>(false,.some []))
 | _=>(false,.some [])
def putG (a b c:Nat) (s:HM.σ) (st:St):Bool×Outs HM :=
 match get st a with
 | .d .raw v=>(match get st b with
  | .d (.prod (.int .i64) (.prod (.int .i64) .unit)) x=>(match get st c with
   | .d (.int .i64) n=>(isMap v s.1 && (rng x.1 && (rng x.2.1 && eqI n (gOf s x.1 x.2.1))),.some [(s,st)])
   | _=>(false,.some []))
  | _=>(false,.some []))
 | _=>(false,.some [])
theorem eqI_eq {a b:Int} (h:eqI a b=true):a=b:=by unfold eqI at h;exact eq_of_beq h
theorem GoodH.world {H:Hole} {F:Nat->Prop} {M0:Base} {s s':H.σ} {M:Mut} {st:St} {a:Act} {w:World} (h:GoodH H F M0 s M st a w) {w':World} (hf:Fr (fun k=>k<w.heap.size/\¬ H.hb s w k) w w')
 (hs:∀ w1:World,w1.heap.size=w.heap.size->Fr (fun k=>k<w.heap.size/\¬ H.hb s w k) w w1->(∀ k,H.hb s w k->w1.heap[k]? = w'.heap[k]?)->H.I s' M w1/\∀ b,H.hb s' w1 b->H.hb s w b):Fr F w w'/\GoodH H F M0 s' M st a w':=by
 obtain ⟨w1,h1,hsz,hbel,hf1⟩:=h.turn hf hs;have hf':Fr (fun b=>F b\/H.hb s' w1 b) w1 w':=Fr.below hbel h1.focus.room;exact ⟨hf1.trans (fr_left hf'),h1.unfocus hf' (h1.focus.below hbel)⟩
theorem slot_pair {M:Mut} {w:World} {st:St} {a:Act} {v:Value} {x:Int×Int×Unit} (h:SlotOK M w st a v (.d ty5 x)):v=pairV x.1 x.2.1:=by
 obtain ⟨cs,rfl,c1,c2,rfl,e1,c3,c4,rfl,e3,e4⟩:=h;have e1:c1=[.int .i64 x.1]:=e1;have e3:c3=[.int .i64 x.2.1]:=e3;have e4:c4=[]:=e4;subst e1 e3 e4;rfl
theorem look_ok {ops:Array Oper} {i d a b:Nat} {x:Option Tmp×Op×Option (Nat×Bool)} (hx:(ops.toList.map opInfo)[i]? = some x) (he:x=(some d,.lookup 100 (.tmp a) (.tmp b) true,none)):HandOp Tryz.prog HM ops i (lookG d a b):=by
 intro F M0 w0 n hI hpl Q K s st act w hc h1 hK;obtain ⟨o,hi,hd,ho,hg0⟩:=infoAt rfl hx;subst he;unfold lookG at h1 hK;split at h1;rotate_left
 . cases h1
 rename_i v ea;split at h1;rotate_left
 . cases h1
 rename_i y eb;simp only [Bool.and_eq_true,Bool.not_eq_true'] at h1;obtain ⟨hnb,hv,hr1,hr2⟩:=h1;obtain ⟨N0,hpn,⟨hb,M,hg⟩,hback⟩:=id hc |>.lift
 obtain ⟨_,M2,hH,_⟩:=id hc;obtain ⟨es,clock,hm,hmemo⟩:=hH;have sa:=hg.slot a;rw [ea] at sa;have tv:tm act a = .map (some s.1):=by
  have:=repV_raw (show RepV M w .raw (tm act a) v from sa);rw [this,isMap_eq hv]
 have sb:=hg.slot b;rw [eb] at sb;have tb:=slot_pair sb;have fin:∀ (z:Int×Bool×Unit),(Instr.lookup 100 (.map (some s.1)) (pairV y.1 y.2.1) true).run Tryz.prog w = .ok (.tuple #[.int .i64 z.1,.bool z.2.1]) w->(∀ a' w',ConcH HM F M0 w0 s (st.set d (.tup NBT z)) a' w'->K a' w')->wpOpIn (fen none) n Tryz.prog ops Q i K act w:=by
  intro z hrun hK;have hr:(execOp act.eval o).run Tryz.prog w = .ok (.value (.tuple #[.int .i64 z.1,.bool z.2.1])) w:=by
   have e1:act.eval (.tmp a) = .map (some s.1):=tv;have e2:act.eval (.tmp b)=pairV y.1 y.2.1:=tb;simp [execOp,ho,e1,e2,hrun]
  refine opn_value hi (wanted_none hg0) (fun c h=>by rw [ho] at h;cases h) hr ?_;rw [hd];refine hK _ _ (hback _ _ _ ⟨hb,M,hg.fin (dst:=some d) (s:=.tup NBT z) (fun d' hd'=>by cases hd';exact hnb) rfl ?_⟩);exact ⟨[.int .i64 z.1,.bool z.2.1],rfl,_,_,rfl,mk_int _ _,_,_,rfl,mk_bool _,rfl⟩
 rcases memo_look hm hmemo hr1 hr2 with h|h
 . exact fin (0,(false,())) h (hK (s,st.set d (.tup NBT ((0:Int),(false,())))) (by rw [ea,eb];exact .tail _ (.head _)))
 . exact fin (gOf s y.1 y.2.1,(true,())) h (hK (s,st.set d (.tup NBT (gOf s y.1 y.2.1,(true,())))) (by rw [ea,eb];exact .head _))
theorem put_ok {ops:Array Oper} {i a b c:Nat} {x:Option Tmp×Op×Option (Nat×Bool)} (hx:(ops.toList.map opInfo)[i]? = some x) (he:x=(none,.mapUpdate 100 (.tmp a) (.tmp b) (.tmp c),none)):HandOp Tryz.prog HM ops i (putG a b c):=by
 intro F M0 w0 n hI hpl Q K s st act w hc h1 hK;obtain ⟨o,hi,hd,ho,hg0⟩:=infoAt rfl hx;subst he;unfold putG at h1 hK;split at h1;rotate_left
 . cases h1
 rename_i v ea;split at h1;rotate_left
 . cases h1
 rename_i y eb;split at h1;rotate_left
 . cases h1
 rename_i m ec;simp only [Bool.and_eq_true] at h1;obtain ⟨hv,hr1,hr2,hmv⟩:=h1;have hmv:m=gOf s y.1 y.2.1:=eqI_eq hmv;obtain ⟨hfr,M,hG⟩:=id hc;obtain ⟨es,clock,hm,hmemo⟩:=hG.1;have hg:=hG.2.1;have sa:=hg.slot a;rw [ea] at sa
 have tv:tm act a = .map (some s.1):=by
  have:=repV_raw (show RepV M w .raw (tm act a) v from sa);rw [this,isMap_eq hv]
 have sb:=hg.slot b;rw [eb] at sb;have tb:=slot_pair sb;have sc:=hg.slot c;rw [ec] at sc;have tc:=slot_int sc;obtain ⟨es',clock',hput,hmemo'⟩:=memo_put hm hmemo hr1 hr2;have hr:(execOp act.eval o).run Tryz.prog w = .ok .skip (w.putObj s.1 (.map es' clock')):=by
  have e1:act.eval (.tmp a) = .map (some s.1):=tv;have e2:act.eval (.tmp b)=pairV y.1 y.2.1:=tb;have e3:act.eval (.tmp c) = .int .i64 (gOf s y.1 y.2.1):=by have e:m=gOf s y.1 y.2.1:=hmv;rw [<- e];exact tc
  simp [execOp,ho,e1,e2,e3,hput]
 have hlt:s.1<w.heap.size:=(Array.getElem?_eq_some_iff.1 hm).1;have hfr':Fr (fun k=>k<w.heap.size/\¬ HM.hb s w k) w (w.putObj s.1 (.map es' clock')):=⟨rfl,rfl,rfl,by simp,fun k hk=>World.putObj_heap_other hk.2⟩
 obtain ⟨f1,hG'⟩:=hG.world (s':=s) hfr' (fun w1 _ _ hk=>⟨⟨es',clock',(hk s.1 rfl).trans (World.putObj_heap_same hlt),hmemo'⟩,fun b h=>h⟩);refine opn_skipped hi (wanted_none hg0) (fun c h=>by rw [ho] at h;cases h) hr ?_;rw [hd]
 exact hK (s,st) (by rw [ea,eb,ec];exact .head _) _ _ ⟨hfr.trans f1,M,hG'⟩
end Go.V
namespace Go.V
open Go.Proofs
abbrev RD:Type:=TR×Int×Value×Unit
def rdS (s:SM):RD:=(s.2.1,(s.2.2,(.map (some s.1),())))
def dep (s:SM) (fr:Int) (m:Nat):Prop:=RdOK s.2.1 s.2.2/\0<=fr/\fr<s.2.1.1.2.1.length/\(s.2.1.1.2.1.length:Int) - fr<=m
open Classical in
noncomputable def f99 (s:SM) (m:Nat) (x:RD×(Int×Int×Unit)×Unit):Out Int :=
 if x.1=rdS s/\dep s x.2.1.1 m/\0<=x.2.1.2.1/\x.2.1.2.1<=9 then .ret (gOf s x.2.1.1 x.2.1.2.1) else .fail
open Classical in
noncomputable def f101 (s:SM) (m:Nat) (x:RD×Int×Int×Int×Unit):Out Int :=
 if x.1=rdS s/\dep s x.2.1 m/\0<=x.2.2.1/\x.2.2.1<=9 then .ret (stepOf (gOf s) x.2.1 x.2.2.1 x.2.2.2.1) else .fail
open Classical in
noncomputable def f102 (s:SM) (m:Nat) (x:RD×Int×Int×Unit):Out Int :=
 if x.1=rdS s/\dep s x.2.1 m then .ret (fewOf (gOf s) x.2.1 x.2.2.1) else .fail
def sp99 (s:SM) (m:Nat):Spec:=⟨104,.call,.prod RDT (.prod SPT .unit),.int .i64,false,false,f99 s m⟩
def sp101 (s:SM) (m:Nat):Spec:=⟨115,.call,.prod RDT ty10,.int .i64,false,false,f101 s m⟩
def sp102 (s:SM) (m:Nat):Spec:=⟨116,.call,.prod RDT ty5,.int .i64,false,false,f102 s m⟩
theorem f99_ret {s:SM} {m:Nat} {x:RD×(Int×Int×Unit)×Unit} {r:Int} (h:f99 s m x = .ret r):x.1=rdS s/\dep s x.2.1.1 m/\0<=x.2.1.2.1/\x.2.1.2.1<=9/\r=gOf s x.2.1.1 x.2.1.2.1:=by
 unfold f99 at h
 split at h
 . rename_i hc;cases h;exact ⟨hc.1,hc.2.1,hc.2.2.1,hc.2.2.2,rfl⟩
 . cases h
theorem f101_ret {s:SM} {m:Nat} {x:RD×Int×Int×Int×Unit} {r:Int} (h:f101 s m x = .ret r):x.1=rdS s/\dep s x.2.1 m/\0<=x.2.2.1/\x.2.2.1<=9/\r=stepOf (gOf s) x.2.1 x.2.2.1 x.2.2.2.1:=by
 unfold f101 at h
 split at h
 . rename_i hc;cases h;exact ⟨hc.1,hc.2.1,hc.2.2.1,hc.2.2.2,rfl⟩
 . cases h
theorem f102_ret {s:SM} {m:Nat} {x:RD×Int×Int×Unit} {r:Int} (h:f102 s m x = .ret r):x.1=rdS s/\dep s x.2.1 m/\r=fewOf (gOf s) x.2.1 x.2.2.1:=by
 unfold f102 at h
 split at h
 . rename_i hc;cases h;exact ⟨hc.1,hc.2,rfl⟩
 . cases h
def specs101:List Spec:=[sp117]
def hints101:List (Nat×List Nat):=[]
def specsQ101 (m:Nat) (s:SM):List Spec:=[sp99 s m,sp117]
def r101_1:Array Oper:=regAt 1 (bodyOf Tryz.f115)
def D101_1:Nat->Option (Nat×(SM->St->Bool×Outs HM)):=fun _=>none
theorem D101_1_ok:∀ i y,D101_1 i=some y->HandQ Tryz.prog HM r101_1 i y.1 y.2:=fun _ _ h=>by cases h
def T101 (m:Nat):List (List Nat×HdH HM):=[([1,0],⟨fun {ρ} k s st=>regQ Tryz.prog HM (fun s=>phi (specsQ101 m s)) hints101 D101_1 1 r101_1 k s st⟩)]
theorem allQ101 (m:Nat) (h:∀ s,∀ sp∈specsQ101 m s,CallH Tryz.prog HM s sp):AllQ Tryz.prog HM (bodyOf Tryz.f115) (T101 m):=(allQ_cons (c' := .region 1 r101_1 false) (by kernel_rfl) (regQ_ok (fun s g sp hs=>h s sp (List.mem_filter.1 hs).1) hints101 D101_1_ok) allQ_nil)
def F101 (m:Nat) (s:SM) (N:Nat) (x:lt32):Out (SM×Int):=match f99 s m (x.1,((x.2.1,(x.2.2.1,())),())) with | .ret r_1=>(match (x.2.2.1 != x.2.2.2.1) with|true=>(match f117 (([r_1,1]:List Int),()) with | .ret r_3=>.ret (s,r_3) | .pan p=>.pan p | .fail=>.fail)|false=>.ret (s,r_1)) | .pan p_2=>.fail | .fail=>.fail
theorem e101 (m:Nat) (s:SM) (N:Nat) (x:lt32):vfnQ Tryz.prog HM (phi specs101) hints101 N (T101 m) Tryz.f115 false false (.prod (.prod (.prod (.prod (.int .i64) (.prod (.list (.prod (.int .i64) (.prod (.list (.int .i64)) .unit))) .unit)) (.prod (.list (.list (.int .i64))) .unit)) (.prod (.int .i64) (.prod .raw .unit))) (.prod (.int .i64) (.prod (.int .i64) (.prod (.int .i64) .unit)))) (.int .i64) s x=F101 m s N x:=by kernel_rfl
def specs102:List Spec:=[]
def hints102:List (Nat×List Nat):=[(3,[1,2,3,7,9])]
def specsQ102 (m:Nat) (s:SM):List Spec:=[sp101 s m]
def r102_5:Array Oper:=regAt 5 (bodyOf Tryz.f116)
def D102_5:Nat->Option (Nat×(SM->St->Bool×Outs HM)):=fun _=>none
theorem D102_5_ok:∀ i y,D102_5 i=some y->HandQ Tryz.prog HM r102_5 i y.1 y.2:=fun _ _ h=>by cases h
def T102 (m:Nat):List (List Nat×HdH HM):=[([1,1,0,1,0,0,1,1,0,0,1],⟨fun {ρ} k s st=>regQ Tryz.prog HM (fun s=>phi (specsQ102 m s)) hints102 D102_5 5 r102_5 k s st⟩)]
theorem allQ102 (m:Nat) (h:∀ s,∀ sp∈specsQ102 m s,CallH Tryz.prog HM s sp):AllQ Tryz.prog HM (bodyOf Tryz.f116) (T102 m):=(allQ_cons (c' := .region 5 r102_5 false) (by kernel_rfl) (regQ_ok (fun s g sp hs=>h s sp (List.mem_filter.1 hs).1) hints102 D102_5_ok) allQ_nil)
def L102_0 (m:Nat) (s:SM) (N:Nat) (n_L102_0:Nat) (x:lt24) (n_1:Int) (t9_2:Int):Out (SM×Int) :=
 vloopQ Tryz.prog HM (phi specs102) hints102 N (T102 m) Tryz.f116 false false (.int .i64) [1,1,0,1,0] n_L102_0 s [U,.d (.int .i64) x.2.1,.d (.int .i64) x.2.2.1,.box [.d (.int .i64) x.1.1.1.1,.d ty0 x.1.1.1.2.1,.d ty1 x.1.1.2.1,.d (.int .i64) x.1.2.1,.d .raw x.1.2.2.1],U,U,U,.d (.int .i64) n_1,U,.d (.int .i64) t9_2,U,U,U,U,U,U,U,U,U,U,U]
theorem L102_0_succ (m:Nat) (s:SM) (N:Nat) (n_L102_0:Nat) (x:lt24) (n_1:Int) (t9_2:Int):L102_0 m s N  (n_L102_0+1) x n_1 t9_2 =
 (match (decide (t9_2<10)) with|true=>(match f101 s m (x.1,(x.2.1,(t9_2,(x.2.2.1,())))) with | .ret r_3=>L102_0 m s N n_L102_0 x (if r_3<n_1 then r_3 else n_1) (IntKind.i64.wrap (t9_2+1)) | .pan p_4=>.fail | .fail=>.fail)|false=>.ret (s,n_1):Out (SM×Int)):=by kernel_rfl
def F102 (m:Nat) (s:SM) (N:Nat) (x:lt24):Out (SM×Int):=L102_0 m s N N x 1000 0
theorem e102 (m:Nat) (s:SM) (N:Nat) (x:lt24):vfnQ Tryz.prog HM (phi specs102) hints102 N (T102 m) Tryz.f116 false false (.prod (.prod (.prod (.prod (.int .i64) (.prod (.list (.prod (.int .i64) (.prod (.list (.int .i64)) .unit))) .unit)) (.prod (.list (.list (.int .i64))) .unit)) (.prod (.int .i64) (.prod .raw .unit))) (.prod (.int .i64) (.prod (.int .i64) .unit))) (.int .i64) s x=F102 m s N x:=by kernel_rfl
def specs99:List Spec:=[sp106,sp117]
def hints99:List (Nat×List Nat):=[(8,[2,3,7,40,41,42])]
def specsQ99 (m:Nat) (s:SM):List Spec:=[sp106,sp102 s m,sp117]
def r99_1:Array Oper:=regAt 1 (bodyOf Tryz.f104)
def D99_1:Nat->Option (Nat×(SM->St->Bool×Outs HM)):=fun i=>match i with|3=>some (0,lookG 15 13 14)|_=>none
theorem D99_1_ok:∀ i y,D99_1 i=some y->HandQ Tryz.prog HM r99_1 i y.1 y.2:=by
 intro i y h
 unfold D99_1 at h
 split at h
 . cases h;exact (look_ok (i:=3) (d:=15) (a:=13) (b:=14) (x:=(some 15,.lookup 100 (.tmp 13) (.tmp 14) true,none)) (by kernel_rfl) rfl).one
 . cases h
def r99_10:Array Oper:=regAt 10 (bodyOf Tryz.f104)
def D99_10:Nat->Option (Nat×(SM->St->Bool×Outs HM)):=fun _=>none
theorem D99_10_ok:∀ i y,D99_10 i=some y->HandQ Tryz.prog HM r99_10 i y.1 y.2:=fun _ _ h=>by cases h
def r99_13:Array Oper:=regAt 13 (bodyOf Tryz.f104)
def D99_13:Nat->Option (Nat×(SM->St->Bool×Outs HM)):=fun i=>match i with|4=>some (0,putG 58 59 60)|_=>none
theorem D99_13_ok:∀ i y,D99_13 i=some y->HandQ Tryz.prog HM r99_13 i y.1 y.2:=by
 intro i y h
 unfold D99_13 at h
 split at h
 . cases h;exact (put_ok (i:=4) (a:=58) (b:=59) (c:=60) (x:=(none,.mapUpdate 100 (.tmp 58) (.tmp 59) (.tmp 60),none)) (by kernel_rfl) rfl).one
 . cases h
def T99 (m:Nat):List (List Nat×HdH HM):=[([1,0,0],⟨fun {ρ} k s st=>regQ Tryz.prog HM (fun s=>phi (specsQ99 m s)) hints99 D99_1 1 r99_1 k s st⟩),
 ([1,1,1,1,0,1,0,0,1,1,0,0,1],⟨fun {ρ} k s st=>regQ Tryz.prog HM (fun s=>phi (specsQ99 m s)) hints99 D99_10 10 r99_10 k s st⟩),
 ([1,1,1,1,1,1,0],⟨fun {ρ} k s st=>regQ Tryz.prog HM (fun s=>phi (specsQ99 m s)) hints99 D99_13 13 r99_13 k s st⟩)]
theorem allQ99 (m:Nat) (h:∀ s,∀ sp∈specsQ99 m s,CallH Tryz.prog HM s sp):AllQ Tryz.prog HM (bodyOf Tryz.f104) (T99 m):=(allQ_cons (c' := .region 1 r99_1 false) (by kernel_rfl) (regQ_ok (fun s g sp hs=>h s sp (List.mem_filter.1 hs).1) hints99 D99_1_ok) (allQ_cons (c' := .region 10 r99_10 false) (by kernel_rfl) (regQ_ok (fun s g sp hs=>h s sp (List.mem_filter.1 hs).1) hints99 D99_10_ok) (allQ_cons (c' := .region 13 r99_13 false) (by kernel_rfl) (regQ_ok (fun s g sp hs=>h s sp (List.mem_filter.1 hs).1) hints99 D99_13_ok) allQ_nil)))
def L99_0 (m:Nat) (s:SM) (N:Nat) (n_L99_0:Nat) (x:lt23) (l_3:(List Int)) (t42_4:Int):Out (SM×Int) :=
 vloopQ Tryz.prog HM (phi specs99) hints99 N (T99 m) Tryz.f104 false false (.int .i64) [1,1,1,1,0,1,0] n_L99_0 s [U,U,.box [.d (.int .i64) x.1.1.1.1,.d ty0 x.1.1.1.2.1,.d ty1 x.1.1.2.1,.d (.int .i64) x.1.2.1,.d .raw x.1.2.2.1],.box [.d (.int .i64) x.2.1.1,.d (.int .i64) x.2.1.2.1],U,U,U,.own (.int .i64) l_3 false,U,U,U,U,U,U,U,U,U,U,U,U,U,U,U,U,U,U,U,U,U,U,U,U,U,U,U,U,U,U,U,U,.d (.list (.int .i64)) (List.getD x.1.1.2.1 x.2.1.1.toNat ([]:List Int)),.d (.int .i64) (lenI (List.getD x.1.1.2.1 x.2.1.1.toNat ([]:List Int))),.d (.int .i64) t42_4,U,U,U,U,U,U,U,U,U,U,U,U,U,U,U,U,U,U,U]
theorem L99_0_succ (m:Nat) (s:SM) (N:Nat) (n_L99_0:Nat) (x:lt23) (l_3:(List Int)) (t42_4:Int):L99_0 m s N  (n_L99_0+1) x l_3 t42_4 =
 (match (decide (t42_4<(lenI (List.getD x.1.1.2.1 x.2.1.1.toNat [])))) with|true=>bif (inb t42_4 (List.getD x.1.1.2.1 x.2.1.1.toNat []).length) then match f102 s m (x.1,((List.getD (List.getD x.1.1.2.1 x.2.1.1.toNat []) t42_4.toNat 0),(x.2.1.2.1,()))) with | .ret r_5=>bif (fits l_3 ([r_5]:List Int)) then L99_0 m s N n_L99_0 x (l_3++([r_5]:List Int)) (IntKind.i64.wrap (t42_4+1)) else .fail | .pan p_6=>.fail | .fail=>.fail else .fail|false=>match f117 (l_3,()) with | .ret r_7=>bif (isMap x.1.2.2.1 s.1 && (rng x.2.1.1 && (rng x.2.1.2.1 && eqI r_7 (gOf s x.2.1.1 x.2.1.2.1)))) then .ret (s,r_7) else .fail | .pan p=>.pan p | .fail=>.fail:Out (SM×Int)):=by kernel_rfl
def F99 (m:Nat) (s:SM) (N:Nat) (x:lt23):Out (SM×Int):=bif (isMap x.1.2.2.1 s.1 && (rng x.2.1.1 && rng x.2.1.2.1)) then both (.ret (s,(gOf s x.2.1.1 x.2.1.2.1))) (match f106 (x.1.1.1,(x.2.1.1,(x.1.2.1,(x.2.1.2.1,())))) with | .ret r_1=>(match (!r_1) with|true=>bif (fits [] ([1000]:List Int)) then bif (inb x.2.1.1 x.1.1.2.1.length) then L99_0 m s N N x ([]++([1000]:List Int)) 0 else .fail else .fail|false=>bif (inb x.2.1.1 x.1.1.2.1.length) then L99_0 m s N N x [] 0 else .fail) | .pan p=>.pan p | .fail=>.fail) else .fail
theorem e99 (m:Nat) (s:SM) (N:Nat) (x:lt23):vfnQ Tryz.prog HM (phi specs99) hints99 N (T99 m) Tryz.f104 false false (.prod (.prod (.prod (.prod (.int .i64) (.prod (.list (.prod (.int .i64) (.prod (.list (.int .i64)) .unit))) .unit)) (.prod (.list (.list (.int .i64))) .unit)) (.prod (.int .i64) (.prod .raw .unit))) (.prod (.prod (.int .i64) (.prod (.int .i64) .unit)) .unit)) (.int .i64) s x=F99 m s N x:=by kernel_rfl
def specs63:List Spec:=[]
def hints63:List (Nat×List Nat):=[(3,[1,3,5])]
def specsQ63 (m:Nat) (s:SM):List Spec:=[sp99 s m]
def r63_5:Array Oper:=regAt 5 (bodyOf Tryz.f72)
def D63_5:Nat->Option (Nat×(SM->St->Bool×Outs HM)):=fun _=>none
theorem D63_5_ok:∀ i y,D63_5 i=some y->HandQ Tryz.prog HM r63_5 i y.1 y.2:=fun _ _ h=>by cases h
def T63 (m:Nat):List (List Nat×HdH HM):=[([1,1,0,1,0,0,1,1,0,0,1],⟨fun {ρ} k s st=>regQ Tryz.prog HM (fun s=>phi (specsQ63 m s)) hints63 D63_5 5 r63_5 k s st⟩)]
theorem allQ63 (m:Nat) (h:∀ s,∀ sp∈specsQ63 m s,CallH Tryz.prog HM s sp):AllQ Tryz.prog HM (bodyOf Tryz.f72) (T63 m):=(allQ_cons (c' := .region 5 r63_5 false) (by kernel_rfl) (regQ_ok (fun s g sp hs=>h s sp (List.mem_filter.1 hs).1) hints63 D63_5_ok) allQ_nil)
def L63_0 (m:Nat) (s:SM) (N:Nat) (n_L63_0:Nat) (x:lt25) (n_1:Int) (t5_2:Int):Out (SM×Int) :=
 vloopQ Tryz.prog HM (phi specs63) hints63 N (T63 m) Tryz.f72 false false (.int .i64) [1,1,0,1,0] n_L63_0 s [U,.box [.d (.int .i64) x.1.1.1.1,.d ty0 x.1.1.1.2.1,.d ty1 x.1.1.2.1,.d (.int .i64) x.1.2.1,.d .raw x.1.2.2.1],U,.d (.int .i64) n_1,U,.d (.int .i64) t5_2,U,U,U,U,U,U,U,U,U,U]
theorem L63_0_succ (m:Nat) (s:SM) (N:Nat) (n_L63_0:Nat) (x:lt25) (n_1:Int) (t5_2:Int):L63_0 m s N  (n_L63_0+1) x n_1 t5_2 =
 (match (decide (t5_2<10)) with|true=>(match f99 s m (x.1,((0,(t5_2,())),())) with | .ret r_3=>L63_0 m s N n_L63_0 x (if r_3<n_1 then r_3 else n_1) (IntKind.i64.wrap (t5_2+1)) | .pan p_4=>.fail | .fail=>.fail)|false=>.ret (s,n_1):Out (SM×Int)):=by kernel_rfl
def F63 (m:Nat) (s:SM) (N:Nat) (x:lt25):Out (SM×Int):=L63_0 m s N N x 1000 0
theorem e63 (m:Nat) (s:SM) (N:Nat) (x:lt25):vfnQ Tryz.prog HM (phi specs63) hints63 N (T63 m) Tryz.f72 false false (.prod (.prod (.prod (.prod (.int .i64) (.prod (.list (.prod (.int .i64) (.prod (.list (.int .i64)) .unit))) .unit)) (.prod (.list (.list (.int .i64))) .unit)) (.prod (.int .i64) (.prod .raw .unit))) .unit) (.int .i64) s x=F63 m s N x:=by kernel_rfl
end Go.V
namespace Go.V
open Go.Proofs
open Go.RowKit (Below)
theorem wr {x:Int} (h1 : -9223372036854775808<=x) (h2:x<=9223372036854775807):IntKind.i64.wrap x=x:=by
 unfold IntKind.wrap;simp only [IntKind.bits,IntKind.signed];simp;split<;>omega
theorem fuel_big:1000000<=fuel:=by unfold fuel;decide
theorem drop_cons {α:Type} {l:List α} {i:Int} (h0:0<=i) (h:i<l.length) (z:α):l.drop i.toNat=l.getD i.toNat z :: l.drop (i+1).toNat:=by
 have hlt:i.toNat<l.length:=by omega
 rw [List.drop_eq_getElem_cons hlt,List.getD_eq_getElem?_getD,List.getElem?_eq_getElem hlt];have:(i+1).toNat=i.toNat+1:=by omega
 rw [this];rfl
theorem drop_end {α:Type} {l:List α} {i:Int} (h:(l.length:Int)<=i):l.drop i.toNat=[]:=List.drop_eq_nil_of_le (by omega)
theorem inb_iff {i:Int} {n:Nat}:inb i n=true<->0<=i/\i<n:=by
 unfold inb;simp
theorem getD_mem {α:Type} {l:List α} {n:Nat} {z:α} (h:n<l.length):l.getD n z∈l:=by
 rw [List.getD_eq_getElem?_getD,List.getElem?_eq_getElem h];exact List.getElem_mem h
theorem loop117 (l:List Int) (hl:l.length<=2000) (hx:∀ x∈l,0<=x/\x<=1000):∀ (d f:Nat) (i n:Int),d<f->0<=i->i+d=l.length->0<=n->n<=1000 ->
 L117_0 fuel f (l,()) n i = .ret ((l.drop i.toNat).foldl (fun n x=>if n+x<1000 then n+x else 1000) n):=by
 intro d
 induction d with
 | zero =>
  intro f i n hf h0 hi hn hn2;obtain ⟨f,rfl⟩:∃ f',f=f'+1:=⟨f - 1,by omega⟩
  rw [L117_0_succ];have:decide (i<lenI (l,()).1)=false:=by unfold lenI;simp;omega
  rw [this,drop_end (by omega)];rfl
 | succ d ih =>
  intro f i n hf h0 hi hn hn2;obtain ⟨f,rfl⟩:∃ f',f=f'+1:=⟨f - 1,by omega⟩
  rw [L117_0_succ];have h1:decide (i<lenI (l,()).1)=true:=by unfold lenI;simp;omega
  have h2:inb i ((l,()):List Int×Unit).1.length=true:=inb_iff.2 ⟨h0,by show i<(l.length:Int);omega⟩;rw [h1,h2];have hg:=hx _ (getD_mem (l:=l) (n:=i.toNat) (z:=0) (by omega));simp only [cond_true];rw [wr (x:=i+1) (by omega) (by omega),wr (x:=n+_) (by show _<=n+l.getD i.toNat 0;omega) (by show n+l.getD i.toNat 0<=_;omega),drop_cons h0 (by omega) 0]
  simp only [List.foldl_cons];exact ih f (i+1) _ (by omega) (by omega) (by omega) (by split<;>omega) (by split<;>omega)
theorem sum117 {l:List Int} (hl:l.length<=2000) (hx:∀ x∈l,0<=x/\x<=1000):f117 (l,()) = .ret (sumV l):=by
 have:=fuel_big;exact loop117 l hl hx l.length fuel 0 0 (by omega) (by omega) (by omega) (by omega) (by omega)
theorem fits106 {t:TREE} {fr place fg:Int} (h0:0<=fr) (h1:fr<t.2.1.length) (h2:0<=place) (h3:place<((t.2.1.getD fr.toNat (0,([],()))).2.1).length):f106 (t,(fr,(place,(fg,())))) = .ret (fitsV t place fr fg):=by
 show F106 fuel _=_;unfold F106;have e1:inb fr t.2.1.length=true:=inb_iff.2 ⟨h0,h1⟩;have e2:inb place ((t.2.1.getD fr.toNat ((0:Int),(([]:List Int),()))).2.1).length=true:=inb_iff.2 ⟨h2,h3⟩;simp only [e1,e2,cond_true];unfold fitsV seenAt
 cases h:(((t.2.1.getD fr.toNat ((0:Int),(([]:List Int),()))).2.1).getD place.toNat 0 == -1) with
 | true=>simp only [Bool.true_or]
 | false=>simp only [Bool.false_or]
theorem rng_small {n:Int} (h0 : -1000000<=n) (h1:n<=1000000):rng n=true:=by
 unfold rng;simp;omega
theorem loop99 (s:SM) (m:Nat) (hd:RdOK s.2.1 s.2.2) {fr fg:Int} (h0:0<=fr) (hfr:fr<s.2.1.1.2.1.length) (hm:(s.2.1.1.2.1.length:Int) - fr<=m+1) (hfg:0<=fg) (hfg9:fg<=9)
 {K:List Int} (hK:s.2.1.2.1.getD fr.toNat []=K) {x:RD×(Int×Int×Unit)×Unit} (hx:x=(rdS s,((fr,(fg,())),()))) :
 ∀ (d f:Nat) (i:Int) (l:List Int),d<f->0<=i->i+d=K.length->l.length<=1+i ->
  l++(K.drop i.toNat).map (fun c=>fewOf (gOf s) c fg)=(if fitsV s.2.1.1 s.2.2 fr fg then [] else [1000])++K.map (fun c=>fewOf (gOf s) c fg) ->
  L99_0 m s fuel f x l i = .ret (s,gOf s fr fg):=by
 have hk:=hd.kids fr.toNat (by omega);rw [hK] at hk;have ek:List.getD x.1.1.2.1 x.2.1.1.toNat ([]:List Int)=K:=by rw [hx];exact hK
 have ex1:x.1=rdS s:=by rw [hx]
 have ex2:x.2.1.1=fr:=by rw [hx]
 have ex3:x.2.1.2.1=fg:=by rw [hx]
 have ex4:x.1.2.2.1 = .map (some s.1):=by rw [hx];rfl
 intro d
 induction d with
 | zero =>
  intro f i l hf hi0 hi hl he;obtain ⟨f,rfl⟩:∃ f',f=f'+1:=⟨f - 1,by omega⟩
  rw [L99_0_succ,ek,ex2,ex3,ex4];have h1:decide (i<lenI K)=false:=decide_eq_false (by unfold lenI;omega);rw [drop_end (by omega),List.map_nil,List.append_nil] at he;have hs:f117 (l,()) = .ret (gOf s fr fg):=by
   rw [sum117 (by have:=hk.1;omega) ?_]
   . show _=Out.ret (LV s.2.1 s.2.2 fr fg);rw [LV_eq hd h0 hfr,hK,he];rfl
   . intro x hx;rw [he] at hx;rcases List.mem_append.1 hx with hx|hx
     . split at hx
       . cases hx
       . rw [List.mem_singleton] at hx;omega
     . obtain ⟨c,_,rfl⟩:=List.mem_map.1 hx;exact fewOf_bd fun g=>(LV_bd _ _ _ _).1
  have e1:rng fr=true:=rng_small (by omega) (by have:=hd.len;omega);have e2:rng fg=true:=rng_small (by omega) (by omega);rw [h1,hs];simp only [isMap,beq_self_eq_true,e1,e2,eqI,Bool.and_true,cond_true]
 | succ d ih =>
  intro f i l hf hi0 hi hl he;obtain ⟨f,rfl⟩:∃ f',f=f'+1:=⟨f - 1,by omega⟩
  rw [L99_0_succ,ek,ex3];have h1:decide (i<lenI K)=true:=decide_eq_true (by unfold lenI;omega);have h2:inb i K.length=true:=inb_iff.2 ⟨hi0,by omega⟩;have hc:=hk.2 _ (getD_mem (l:=K) (n:=i.toNat) (z:=0) (by omega));have h3:f102 s m (x.1,(List.getD K i.toNat (0:Int),(fg,()))) = .ret (fewOf (gOf s) (List.getD K i.toNat (0:Int)) fg):=by
   unfold f102;rw [if_pos ⟨ex1,hd,by dsimp only;omega,by dsimp only;omega,by dsimp only;omega⟩]
  have h4:fits l [fewOf (gOf s) (List.getD K i.toNat (0:Int)) fg]=true:=by
   unfold fits;have:=hk.1;simp;omega
  rw [h1,h2,h3];simp only [h4,cond_true];rw [wr (x:=i+1) (by omega) (by have:=hk.1;omega)];refine ih f (i+1) _ (by omega) (by omega) (by omega) (by simp;omega) ?_;rw [<- he,drop_cons hi0 (by omega) 0,List.map_cons,List.append_assoc]
  rfl
theorem F99_eq {s:SM} {m:Nat} {x:RD×(Int×Int×Unit)×Unit} {r:Int} (h:f99 s (m+1) x = .ret r):F99 m s fuel x = .ret (s,r):=by
 obtain ⟨hx,⟨hd,h0,hfr,hm⟩,hg0,hg9,rfl⟩:=f99_ret h;obtain ⟨rd,⟨fr,fg,u⟩,u2⟩:=x;dsimp only at hx h0 hfr hm hg0 hg9;subst hx;have hfb:=fuel_big;have hk:=hd.kids fr.toNat (by omega);have e1:rng fr=true:=rng_small (by omega) (by have:=hd.len;omega)
 have e2:rng fg=true:=rng_small (by omega) (by omega);have e3:inb fr s.2.1.2.1.length=true:=inb_iff.2 ⟨h0,by rw [hd.made];exact hfr⟩;have e4:f106 (s.2.1.1,(fr,(s.2.2,(fg,())))) = .ret (fitsV s.2.1.1 s.2.2 fr fg):=fits106 h0 hfr hd.pos (hd.seen fr.toNat (by omega))
 have e5:fits ([]:List Int) ([(1000:Int)]:List Int)=true:=by unfold fits;simp
 unfold F99;dsimp only [rdS];simp only [isMap,beq_self_eq_true,e1,e2,e3,e4,e5,Bool.and_true,cond_true];refine both_eq ?_;cases hf:fitsV s.2.1.1 s.2.2 fr fg with
 | true =>
  simp only [Bool.not_true];refine (loop99 s m hd h0 hfr (by omega) hg0 hg9 rfl rfl (s.2.1.2.1.getD fr.toNat []).length fuel 0 [] (by have:=hk.1;omega) (by omega) (by rw [Int.zero_add]) (by simp) ?_).symm;rw [hf];simp
 | false =>
  simp only [Bool.not_false];refine (loop99 s m hd h0 hfr (by omega) hg0 hg9 rfl rfl (s.2.1.2.1.getD fr.toNat []).length fuel 0 _ (by have:=hk.1;omega) (by omega) (by rw [Int.zero_add]) (by simp) ?_).symm;rw [hf];simp
theorem F101_eq {s:SM} {m:Nat} {x:RD×Int×Int×Int×Unit} {r:Int} (h:f101 s m x = .ret r):F101 m s fuel x = .ret (s,r):=by
 obtain ⟨hx,hdp,hg0,hg9,rfl⟩:=f101_ret h;obtain ⟨rd,fr,fg,p,u⟩:=x;dsimp only at hx hdp hg0 hg9;subst hx;unfold F101;have e:f99 s m (rdS s,((fr,(fg,())),())) = .ret (gOf s fr fg):=by
  unfold f99;rw [if_pos ⟨rfl,hdp,hg0,hg9⟩]
 have hb:=LV_bd s.2.1 s.2.2 fr fg;have e2:f117 ([gOf s fr fg,1],()) = .ret (sumV [gOf s fr fg,1]):=sum117 (by simp) (by intro x hx;simp at hx;rcases hx with rfl|rfl;exact hb;omega);simp only [e];unfold stepOf
 by_cases hp:fg=p
 . subst hp;simp
 . have:(fg != p)=true:=by simpa using hp
   simp only [this,e2,if_neg hp]
theorem loop102 (s:SM) (m:Nat) {fr p:Int} (hdp:dep s fr m):∀ (d f:Nat) (i n:Int),d<f->0<=i->i+d=10 ->
 L102_0 m s fuel f (rdS s,(fr,(p,()))) n i = .ret (s,((List.range 10).drop i.toNat).foldl (fun n (g:Nat)=>if stepOf (gOf s) fr g p<n then stepOf (gOf s) fr g p else n) n):=by
 intro d
 induction d with
 | zero =>
  intro f i n hf h0 hi;obtain ⟨f,rfl⟩:∃ f',f=f'+1:=⟨f - 1,by omega⟩
  rw [L102_0_succ];have:decide (i<10)=false:=by simp;omega
  rw [this,drop_end (by simp;omega)];rfl
 | succ d ih =>
  intro f i n hf h0 hi;obtain ⟨f,rfl⟩:∃ f',f=f'+1:=⟨f - 1,by omega⟩
  rw [L102_0_succ];have h1:decide (i<10)=true:=by simp;omega
  have h2:f101 s m (rdS s,(fr,(i,(p,())))) = .ret (stepOf (gOf s) fr i p):=by
   unfold f101;rw [if_pos ⟨rfl,hdp,h0,by dsimp only;omega⟩]
  simp only [h1,h2];rw [wr (by omega) (by omega),drop_cons h0 (by simp;omega) 0,List.foldl_cons];have e:(((List.range 10).getD i.toNat 0:Nat):Int)=i:=by
   rw [List.getD_eq_getElem?_getD,List.getElem?_range (by omega)];simp;omega
  rw [e];exact ih f (i+1) _ (by omega) (by omega) (by omega)
theorem F102_eq {s:SM} {m:Nat} {x:RD×Int×Int×Unit} {r:Int} (h:f102 s m x = .ret r):F102 m s fuel x = .ret (s,r):=by
 obtain ⟨hx,hdp,rfl⟩:=f102_ret h;obtain ⟨rd,fr,p,u⟩:=x;dsimp only at hx hdp;subst hx;have:=fuel_big;exact loop102 s m hdp 10 fuel 0 1000 (by omega) (by omega) (by omega)
def errsV (s:SM):Int:=(List.range 10).foldl (fun n (g:Nat)=>if gOf s 0 g<n then gOf s 0 g else n) 1000
open Classical in
noncomputable def f63 (s:SM) (x:RD×Unit):Out Int:=if x.1=rdS s/\RdOK s.2.1 s.2.2/\0<s.2.1.1.2.1.length then .ret (errsV s) else .fail
theorem f63_ret {s:SM} {x:RD×Unit} {r:Int} (h:f63 s x = .ret r):x.1=rdS s/\RdOK s.2.1 s.2.2/\0<s.2.1.1.2.1.length/\r=errsV s:=by
 unfold f63 at h;split at h
 . rename_i hc;cases h;exact ⟨hc.1,hc.2.1,hc.2.2,rfl⟩
 . cases h
theorem loop63 (s:SM) {m:Nat} (hd:RdOK s.2.1 s.2.2) (hn:0<s.2.1.1.2.1.length) (hm:s.2.1.1.2.1.length<=m):∀ (d f:Nat) (i n:Int),d<f->0<=i->i+d=10 ->
 L63_0 m s fuel f (rdS s,()) n i = .ret (s,((List.range 10).drop i.toNat).foldl (fun n (g:Nat)=>if gOf s 0 g<n then gOf s 0 g else n) n):=by
 intro d
 induction d with
 | zero =>
  intro f i n hf h0 hi;obtain ⟨f,rfl⟩:∃ f',f=f'+1:=⟨f - 1,by omega⟩
  rw [L63_0_succ];have:decide (i<10)=false:=by simp;omega
  rw [this,drop_end (by simp;omega)];rfl
 | succ d ih =>
  intro f i n hf h0 hi;obtain ⟨f,rfl⟩:∃ f',f=f'+1:=⟨f - 1,by omega⟩
  rw [L63_0_succ];have h1:decide (i<10)=true:=by simp;omega
  have h2:f99 s m (rdS s,((0,(i,())),())) = .ret (gOf s 0 i):=by
   unfold f99;rw [if_pos ⟨rfl,⟨hd,(show (0:Int)<=0 from Int.le_refl 0),by dsimp only;omega,by dsimp only;omega⟩,h0,by dsimp only;omega⟩]
  simp only [h1,h2];rw [wr (by omega) (by omega),drop_cons h0 (by simp;omega) 0,List.foldl_cons];have e:(((List.range 10).getD i.toNat 0:Nat):Int)=i:=by
   rw [List.getD_eq_getElem?_getD,List.getElem?_range (by omega)];simp;omega
  rw [e];exact ih f (i+1) _ (by omega) (by omega) (by omega)
theorem F63_eq {s:SM} {m:Nat} {x:RD×Unit} {r:Int} (h:f63 s x = .ret r) (hm:1000<=m):F63 m s fuel x = .ret (s,r):=by
 obtain ⟨hx,hd,hn,rfl⟩:=f63_ret h;obtain ⟨rd,u⟩:=x;dsimp only at hx;subst hx;have:=fuel_big;have:=hd.len;exact loop63 s hd hn (by omega) 10 fuel 0 1000 (by omega) (by omega) (by omega)
theorem inv_map (M:Mut) (s:SM) (w w':World) (h:Inv.I Tryz.prog w) (hs:HM.I s M w) (hf:Fr (fun k=>k<w.heap.size/\¬ HM.hb s w k) w w'):Inv.I Tryz.prog w':=by
 obtain ⟨es,c,hm,_⟩:=hs;have hne:∀ (g:Nat) C E fz,w.heap[g]? = some (.cells C E fz)->w'.heap[g]? = some (.cells C E fz):=fun g C E fz hg=>by
  rw [hf.block g ⟨(Array.getElem?_eq_some_iff.1 hg).1,fun e=>by rw [show g=s.1 from e,hm] at hg;cases hg⟩];exact hg
 obtain ⟨h1,mm,h2⟩:=h;refine ⟨?_,mm,?_⟩
 . unfold Lib.TabIs World.var? at *
   cases hg : Tryz.prog.globalNamed "internal/strconv.uint64pow10" with
   | none=>simp [hg] at h1
   | some g =>
    simp only [hg,Option.bind_some] at h1 ⊢;cases ho:w.heap[g]? with
    | none=>rw [ho] at h1;cases h1
    | some ob =>
     rw [ho] at h1;cases ob with
     | cells C E fz=>rw [hne g C E fz ho];exact h1
     | _=>cases h1
 . unfold World.cell? at h2 ⊢;cases ho:w.heap[1]? with
   | none=>simp [ho] at h2
   | some ob =>
    cases ob with
    | cells C E fz=>simp only [ho] at h2;simp only [hne 1 C E fz ho];exact h2
    | _=>simp [ho] at h2
theorem call_of {H:Hole} {s:H.σ} {sp:Spec} (h:Contract Tryz.prog sp):CallH Tryz.prog H s sp:=.inl h
theorem c99s:∀ (m:Nat) (s:SM),MContract Tryz.prog HM s (sp99 s m)/\MContract Tryz.prog HM s (sp101 s m)/\MContract Tryz.prog HM s (sp102 s m):=by
 intro m
 induction m with
 | zero =>
  intro s;have hno:∀ fr,¬ dep s fr 0:=fun fr h=>by obtain ⟨_,h1,h2,h3⟩:=h;omega
  refine ⟨fun x M w vs r _ _ _ _ _ hr=>?_,fun x M w vs r _ _ _ _ _ hr=>?_,fun x M w vs r _ _ _ _ _ hr=>?_⟩
  . exact absurd (f99_ret hr).2.1 (hno _)
  . exact absurd (f101_ret hr).2.1 (hno _)
  . exact absurd (f102_ret hr).2.1 (hno _)
 | succ m ih =>
  have h99:∀ s,MContract Tryz.prog HM s (sp99 s (m+1)):=fun s=>by
   refine mcontract_of (H:=HM) mixed (l:=specs99) (all_cons c106 (all_cons c117 all_nil)) Tryz.func104 rfl (allQ99 m fun s sp hs=>?_) hints99 HM_free (fun M w w'=>inv_map M s w w') rfl rfl fun x r hr=>⟨fuel,?_⟩
   . simp only [specsQ99,List.mem_cons,List.not_mem_nil,or_false] at hs;rcases hs with rfl|rfl|rfl
     . exact call_of c106
     . exact .inr ⟨rfl,(ih s).2.2⟩
     . exact call_of c117
   . exact (e99 m s fuel x).trans (F99_eq hr)
  have h101:∀ s,MContract Tryz.prog HM s (sp101 s (m+1)):=fun s=>by
   refine mcontract_of (H:=HM) mixed (l:=specs101) (all_cons c117 all_nil) Tryz.func115 rfl (allQ101 (m+1) fun s sp hs=>?_) hints101 HM_free (fun M w w'=>inv_map M s w w') rfl rfl fun x r hr=>⟨fuel,?_⟩
   . simp only [specsQ101,List.mem_cons,List.not_mem_nil,or_false] at hs;rcases hs with rfl|rfl
     . exact .inr ⟨rfl,h99 s⟩
     . exact call_of c117
   . exact (e101 (m+1) s fuel x).trans (F101_eq hr)
  have h102:∀ s,MContract Tryz.prog HM s (sp102 s (m+1)):=fun s=>by
   refine mcontract_of (H:=HM) mixed (l:=specs102) all_nil Tryz.func116 rfl (allQ102 (m+1) fun s sp hs=>?_) hints102 HM_free (fun M w w'=>inv_map M s w w') rfl rfl fun x r hr=>⟨fuel,?_⟩
   . simp only [specsQ102,List.mem_cons,List.not_mem_nil,or_false] at hs;subst hs;exact .inr ⟨rfl,h101 s⟩
   . exact (e102 (m+1) s fuel x).trans (F102_eq hr)
  exact fun s=>⟨h99 s,h101 s,h102 s⟩
def sp63 (s:SM):Spec:=⟨72,.call,.prod RDT .unit,.int .i64,false,false,f63 s⟩
theorem c63 (s:SM):MContract Tryz.prog HM s (sp63 s):=by
 refine mcontract_of (H:=HM) mixed (l:=specs63) all_nil Tryz.func72 rfl (allQ63 1000 fun s sp hs=>?_) hints63 HM_free (fun M w w'=>inv_map M s w w') rfl rfl fun x r hr=>⟨fuel,?_⟩
 . simp only [specsQ63,List.mem_cons,List.not_mem_nil,or_false] at hs;subst hs;exact .inr ⟨rfl,(c99s 1000 s).1⟩
 . exact (e63 1000 s fuel x).trans (F63_eq hr (by omega))
end Go.V
end
