/- Part. -/
import Derived.Test.YtmkbnifehdhbbabGreatDoorCG
import Derived.Maps.Keyed
import Derived.DeepKeys4
set_option linter.all false
noncomputable section
namespace Go.V
open Go.Proofs
open Go.RowKit (Below)
abbrev df:Ty:=.prod gI (.prod (.list (.list (.int .i64))) .unit)
abbrev eN:Ty:=.prod df (.prod (.int .i64) (.prod .raw .unit))
abbrev K2:Ty:=.prod (.int .i64) (.prod (.int .i64) .unit)
abbrev ac:Type:=Int×List (Int×List Int×Unit)×Unit
abbrev TR:Type:=ac×List (List Int)×Unit
def aH (t:ac) (fr place:Int):Int:=((t.2.1.getD fr.toNat (0,([],()))).2.1).getD place.toNat 0
def cv (t:ac) (place fr fg:Int):Bool:=aH t fr place == -1 || aH t fr place==fg
def jz (l:List Int):Int:=l.foldl (fun n x=>if n+x<1000 then n+x else 1000) 0
def dc (f:Int->Int->Int) (c g parent:Int):Int:=if g=parent then f c g else jz [f c g,1]
def cW (f:Int->Int->Int) (c parent:Int):Int:=(List.range 10).foldl (fun n (g:Nat)=>if dc f c g parent<n then dc f c g parent else n) 1000
def eE (d:TR) (place:Int):Nat->Int->Int->Int
 | 0=>fun _ _=>0
 | n+1=>fun fr fg=>jz ((if cv d.1 place fr fg then [] else [1000])++(d.2.1.getD fr.toNat []).map fun c=>cW (eE d place n) c fg)
def LV (d:TR) (place fr fg:Int):Int:=eE d place d.1.2.1.length fr fg
structure RdOK (d:TR) (place:Int):Prop where
 len:d.1.2.1.length<=1000
 made:d.2.1.length=d.1.2.1.length
 kids:∀ i,i<d.1.2.1.length->(d.2.1.getD i []).length<=1000/\∀ c∈d.2.1.getD i [],(i:Int)<c/\c<d.1.2.1.length
 pos:0<=place
 seen:∀ i,i<d.1.2.1.length->place<((d.1.2.1.getD i (0,([],()))).2.1).length
theorem FE:∀ (l:List Int) (n:Int),n<=1000->l.foldl (fun n x=>if n+x<1000 then n+x else 1000) n<=1000
 | [],n,h=>h
 | x :: l,n,h=>FE l _ (by dsimp only;split<;>omega)
theorem FD:∀ (l:List Int) (n:Int),0<=n->(∀ x∈l,0<=x)->0<=l.foldl (fun n x=>if n+x<1000 then n+x else 1000) n
 | [],n,h,_=>h
 | x :: l,n,h,hx=>FD l _ (by have:=hx x (by simp);dsimp only;split<;>omega) fun y hy=>hx y (by simp [hy])
theorem Wb (l:List Int):jz l<=1000:=FE l 0 (by omega)
theorem Jv {l:List Int} (h:∀ x∈l,0<=x):0<=jz l:=FD l 0 (by omega) h
theorem Fp {f:Int->Int->Int} {c p:Int} (h:∀ g:Nat,0<=f c g):0<=cW f c p/\cW f c p<=1000:=by
 unfold cW;have key:∀ (l:List Nat) (n:Int),0<=n/\n<=1000->0<=l.foldl (fun n (g:Nat)=>if dc f c g p<n then dc f c g p else n) n/\l.foldl (fun n (g:Nat)=>if dc f c g p<n then dc f c g p else n) n<=1000:=by
  intro l
  induction l with
  | nil=>intro n h;exact h
  | cons g l ih =>
   intro n hn;refine ih _ ?_;dsimp only;split
   . rename_i hlt;refine ⟨?_,by omega⟩;unfold dc;split
     . exact h g
     . exact Jv (by intro x hx;simp at hx;have:=h g;omega)
   . exact hn
 exact key _ _ (by omega)
theorem Gy (d:TR) (place:Int):∀ (n:Nat) (fr fg:Int),0<=eE d place n fr fg/\eE d place n fr fg<=1000
 | 0,_,_=>⟨by simp [eE],by simp [eE]⟩
 | n+1,fr,fg=>by
  unfold eE;refine ⟨Jv fun x hx=>?_,Wb _⟩;rcases List.mem_append.1 hx with hx|hx
  . split at hx
    . cases hx
    . rw [List.mem_singleton] at hx;omega
  . obtain ⟨c,_,rfl⟩:=List.mem_map.1 hx;exact (Fp fun g=>(Gy d place n _ _).1).1
theorem Dq (d:TR) (place fr fg:Int):0<=LV d place fr fg/\LV d place fr fg<=1000:=Gy d place _ fr fg
theorem V6 {f f':Int->Int->Int} {c:Int} (h:∀ g:Int,f c g=f' c g) (g p:Int):dc f c g p=dc f' c g p:=by
 unfold dc;rw [h]
theorem Q2 {f f':Int->Int->Int} {c:Int} (h:∀ g:Int,f c g=f' c g) (p:Int):cW f c p=cW f' c p:=by
 unfold cW;simp only [V6 h]
theorem Sk {d:TR} {place:Int} (hd:RdOK d place):∀ (m n:Nat) (fr:Int) (fg:Int),0<=fr->fr<d.1.2.1.length->(d.1.2.1.length:Int) - fr<=m->(d.1.2.1.length:Int) - fr<=n->eE d place m fr fg=eE d place n fr fg:=by
 intro m
 induction m with
 | zero=>intro n fr fg h0 h h1;omega
 | succ m ih =>
  intro n fr fg h0 h h1 h2;cases n with
  | zero=>omega
  | succ n =>
   have hk:=(hd.kids fr.toNat (by omega)).2;have e:((d.2.1.getD fr.toNat []).map fun c=>cW (eE d place m) c fg)=(d.2.1.getD fr.toNat []).map fun c=>cW (eE d place n) c fg:=by
    apply List.map_congr_left;intro c hc;have:=hk c hc;exact Q2 (fun g=>ih n c g (by omega) (by omega) (by omega) (by omega)) fg
   simp only [eE];rw [e]
theorem KZ {d:TR} {place:Int} (hd:RdOK d place) {fr fg:Int} (h0:0<=fr) (h:fr<d.1.2.1.length) :
 LV d place fr fg=jz ((if cv d.1 place fr fg then [] else [1000])++(d.2.1.getD fr.toNat []).map fun c=>cW (LV d place) c fg):=by
 have e:LV d place fr fg=eE d place (d.1.2.1.length+1) fr fg:=Sk hd _ _ fr fg h0 h (by omega) (by omega);rw [e];rfl
theorem Si:laidOutB Tryz.prog=true:=by kernel_rfl
theorem lk:Maps.Keyed Tryz.prog 137:=Maps.Keyed.of_law (deep_law_laid Si (m:=2) (by omega) (of_decide_eq_true (by kernel_rfl)) (by kernel_rfl) (by kernel_rfl))
def eJ (a b:Int):Value:=.agg #[.int .i64 a,.int .i64 b]
def cZ (n:Int):Bool:=decide (-9223372036854775808<=n) && decide (n<=9223372036854775807)
theorem HW {n:Int} (h:cZ n=true):(Lit.int .i64 n).wf=true:=by
 simp only [cZ,Bool.and_eq_true,decide_eq_true_eq] at h;have h1:IntKind.min .i64 = -9223372036854775808:=rfl;have h2:IntKind.max .i64=9223372036854775807:=rfl;simp [Lit.wf,h1,h2,h]
theorem Wi:Tryz.prog.underlying 137=some (.struct ((Tryz.prog.underlying 137).elim #[] fun d=>match d with | .struct fs=>fs|_ => #[])):=by kernel_rfl
def zD (n:Int):Option (List Lit):=if IntKind.i64=IntKind.i64/\(Lit.int .i64 n).wf=true then some [Lit.int .i64 n] else none
theorem Sh (a b:Int):Tryz.prog.keyLits (Tryz.prog.types.size+1) 137 (eJ a b).cells.toList=(([zD a,zD b]).mapM id).map List.flatten:=by kernel_rfl
theorem Sg (a b:Int):(Tryz.prog.keyType 137 && (eJ a b).formed Tryz.prog 137)=true:=by kernel_rfl
theorem zC {a b:Int} (ha:cZ a=true) (hb:cZ b=true):∃ l,keyOf Tryz.prog 137 (eJ a b)=some l:=by
 have h1:=HW ha;have h2:=HW hb;unfold keyOf;rw [Wi,Sg,Sh];simp [zD,h1,h2]
def my (g:Int->Int->Int) (es:Array MapEntry):Prop :=
 ∀ e∈es.toList,∃ a b,cZ a=true/\cZ b=true/\e.key=eJ a b/\e.val = .int .i64 (g a b)
theorem Ul {a b a' b':Int} (h:eJ a b=eJ a' b'):a=a'/\b=b':=by
 simp only [eJ,Value.agg.injEq] at h;have h1:=congrArg (·.toList) h;simp at h1;exact h1
theorem GP {g:Int->Int->Int} {es:Array MapEntry} (h:my g es):∀ e∈es.toList,∃ l,keyOf Tryz.prog 137 e.key=some l:=fun e he=>by
 obtain ⟨a,b,ha,hb,hk,_⟩:=h e he;rw [hk];exact zC ha hb
theorem vk:Tryz.prog.underlying 100=some (.map 137 3):=by kernel_rfl
theorem Wy (w:World):(zeroValue 3).run Tryz.prog w = .ok (.int .i64 0) w:=by kernel_rfl
theorem S4 {g:Int->Int->Int} {es:Array MapEntry} {clock bm:Nat} {w:World} {a b:Int} (hb:w.heap[bm]? = some (.map es clock)) (hm:my g es) (h1:cZ a=true) (h2:cZ b=true) :
 (Instr.lookup 100 (.map (some bm)) (eJ a b) true).run Tryz.prog w = .ok (.tuple #[.int .i64 0,.bool false]) w\/(Instr.lookup 100 (.map (some bm)) (eJ a b) true).run Tryz.prog w = .ok (.tuple #[.int .i64 (g a b),.bool true]) w:=by
 obtain ⟨l,hl⟩:=zC h1 h2;rcases lk.find w hl es.toList (GP hm) with ⟨g1,g2⟩|⟨j,e0,g1,g2,g3⟩
 . left;simp [Instr.lookup,run_underlying vk,MapKept.run_getObj_map hb,lk.check w _ hl,g1,Wy,Result.andThen]
 . right;obtain ⟨a',b',_,_,hk,hv⟩:=hm e0 (List.mem_of_getElem? g2);obtain ⟨rfl,rfl⟩:=Ul (hk.symm.trans g3);simp [Instr.lookup,run_underlying vk,MapKept.run_getObj_map hb,lk.check w _ hl,g1,Result.andThen,hv]
theorem S7 {g:Int->Int->Int} {es:Array MapEntry} {clock bm:Nat} {w:World} {a b:Int} (hb:w.heap[bm]? = some (.map es clock)) (hm:my g es) (h1:cZ a=true) (h2:cZ b=true) :
 ∃ es' clock',(Instr.mapUpdate 100 (.map (some bm)) (eJ a b) (.int .i64 (g a b))).run Tryz.prog w = .ok () (w.putObj bm (.map es' clock'))/\my g es':=by
 obtain ⟨l,hl⟩:=zC h1 h2;rcases lk.find w hl es.toList (GP hm) with ⟨g1,g2⟩|⟨j,e0,g1,g2,g3⟩
 . refine ⟨es.push ⟨eJ a b,.int .i64 (g a b),clock⟩,clock+1,?_,?_⟩
   . simp [Instr.mapUpdate,run_underlying vk,MapKept.run_getObj_map hb,lk.check w false hl,g1,MapKept.run_setObj_map _ hb,Result.andThen,World.putObj]
   . intro e he;simp only [Array.toList_push,List.mem_append,List.mem_singleton] at he;rcases he with he|rfl
     . exact hm e he
     . exact ⟨a,b,h1,h2,rfl,rfl⟩
 . have hj:es[j]? = some e0:=by simpa using g2
   refine ⟨es.modify j fun e=>{ e with key:=eJ a b,val:=.int .i64 (g a b) },clock,?_,?_⟩
   . simp [Instr.mapUpdate,run_underlying vk,MapKept.run_getObj_map hb,lk.check w false hl,g1,hj,g3,lk.stays w hl,MapKept.run_setObj_map _ hb,Result.andThen,World.putObj]
   . intro e he;obtain ⟨i,hi⟩:=List.mem_iff_getElem?.1 he;have hi':(es.modify j fun e=>{ e with key:=eJ a b,val:=.int .i64 (g a b) })[i]? = some e:=by rw [<- Array.getElem?_toList];exact hi
     rw [Array.getElem?_modify] at hi';split at hi'
     . cases hx:es[i]? with
       | none=>rw [hx] at hi';cases hi'
       | some e1=>rw [hx] at hi';cases hi';exact ⟨a,b,h1,h2,rfl,rfl⟩
     . exact hm e (List.mem_of_getElem? (by simpa using hi'))
abbrev SM:Type:=Nat×TR×Int
def br (s:SM):Int->Int->Int:=LV s.2.1 s.2.2
def HM:Hole where
 σ:=SM
 hb s _ b:=b=s.1
 I s _ w:=∃ es clock,w.heap[s.1]? = some (.map es clock)/\my (br s) es
 keep s M w M' w' h _ hk:=by
  obtain ⟨es,c,h1,h2⟩:=h;exact ⟨es,c,(hk s.1 rfl).trans h1,h2⟩
 same s M w w' _ _ b h:=h
 lt s M w b h hb:=by
  obtain ⟨es,c,h1,h2⟩:=h;subst hb;exact (Array.getElem?_eq_some_iff.1 h1).1
 nd s M w b c h hb:=by
  obtain ⟨es,c',h1,h2⟩:=h;subst hb;rw [h1];simp
theorem oL:HM.Free:=⟨fun s M w M' w' h hk=>by
 obtain ⟨es,c,h1,h2⟩:=h;exact ⟨es,c,(hk s.1 rfl).trans h1,h2⟩,fun _ _ _ _ h=>h⟩
def jW (v:Value) (b:Nat):Bool:=match v with | .map (some b')=>b'==b|_=>false
theorem Gt {v:Value} {b:Nat} (h:jW v b=true):v = .map (some b):=by
 unfold jW at h;split at h
 . simp at h;rw [h]
 . cases h
abbrev mz:Ty:=.prod (.int .i64) (.prod .bool .unit)
def zI (d a b:Nat) (s:HM.σ) (st:St):Bool×Outs HM :=
 match get st a with
 | .d .raw v=>(match get st b with
  | .d (.prod (.int .i64) (.prod (.int .i64) .unit)) x=>(!au (get st d) && (jW v s.1 && (cZ x.1 && cZ x.2.1)),.some [(s,st.set d (.tup mz (br s x.1 x.2.1,(true,())))),(s,st.set d (.tup mz ((0:Int),(false,()))))])
  | _=>(false,.some []))
 | _=>(false,.some [])
def zX (a b c:Nat) (s:HM.σ) (st:St):Bool×Outs HM :=
 match get st a with
 | .d .raw v=>(match get st b with
  | .d (.prod (.int .i64) (.prod (.int .i64) .unit)) x=>(match get st c with
   | .d (.int .i64) n=>(jW v s.1 && (cZ x.1 && (cZ x.2.1 && gj n (br s x.1 x.2.1))),.some [(s,st)])
   | _=>(false,.some []))
  | _=>(false,.some []))
 | _=>(false,.some [])
theorem O0 {a b:Int} (h:gj a b=true):a=b:=by unfold gj at h;exact eq_of_beq h
theorem bv.world {H:Hole} {F:Nat->Prop} {M0:Base} {s s':H.σ} {M:ai} {st:St} {a:Act} {w:World} (h:bv H F M0 s M st a w) {w':World} (hf:Fr (fun k=>k<w.heap.size/\¬ H.hb s w k) w w')
 (hs:∀ w1:World,w1.heap.size=w.heap.size->Fr (fun k=>k<w.heap.size/\¬ H.hb s w k) w w1->(∀ k,H.hb s w k->w1.heap[k]? = w'.heap[k]?)->H.I s' M w1/\∀ b,H.hb s' w1 b->H.hb s w b):Fr F w w'/\bv H F M0 s' M st a w':=by
 obtain ⟨w1,h1,hsz,hbel,hf1⟩:=h.turn hf hs;have hf':Fr (fun b=>F b\/H.hb s' w1 b) w1 w':=Fr.below hbel h1.focus.room;exact ⟨hf1.trans (jQ hf'),h1.unfocus hf' (h1.focus.below hbel)⟩
theorem Ii {M:ai} {w:World} {st:St} {a:Act} {v:Value} {x:Int×Int×Unit} (h:aI M w st a v (.d eY x)):v=eJ x.1 x.2.1:=by
 obtain ⟨cs,rfl,c1,c2,rfl,e1,c3,c4,rfl,e3,e4⟩:=h;have e1:c1=[.int .i64 x.1]:=e1;have e3:c3=[.int .i64 x.2.1]:=e3;have e4:c4=[]:=e4;subst e1 e3 e4;rfl
theorem Sv {ops:Array Oper} {i d a b:Nat} {x:Option Tmp×Op×Option (Nat×Bool)} (hx:(ops.toList.map a_)[i]? = some x) (he:x=(some d,.lookup 100 (.tmp a) (.tmp b) true,none)):dC Tryz.prog HM ops i (zI d a b):=by
 intro F M0 w0 n hI hpl Q K s st act w hc h1 hK;obtain ⟨o,hi,hd,ho,hg0⟩:=aB rfl hx;subst he;unfold zI at h1 hK;split at h1;rotate_left
 . cases h1
 rename_i v ea;split at h1;rotate_left
 . cases h1
 rename_i y eb;simp only [Bool.and_eq_true,Bool.not_eq_true'] at h1;obtain ⟨hnb,hv,hr1,hr2⟩:=h1;obtain ⟨N0,hpn,⟨hb,M,hg⟩,hback⟩:=id hc |>.lift
 obtain ⟨_,M2,hH,_⟩:=id hc;obtain ⟨es,clock,hm,hmemo⟩:=hH;have sa:=hg.slot a;rw [ea] at sa;have tv:tm act a = .map (some s.1):=by
  have:=fp (show aw M w .raw (tm act a) v from sa);rw [this,Gt hv]
 have sb:=hg.slot b;rw [eb] at sb;have tb:=Ii sb;have fin:∀ (z:Int×Bool×Unit),(Instr.lookup 100 (.map (some s.1)) (eJ y.1 y.2.1) true).run Tryz.prog w = .ok (.tuple #[.int .i64 z.1,.bool z.2.1]) w->(∀ a' w',bH HM F M0 w0 s (st.set d (.tup mz z)) a' w'->K a' w')->wpOpIn (aA none) n Tryz.prog ops Q i K act w:=by
  intro z hrun hK;have hr:(execOp act.eval o).run Tryz.prog w = .ok (.value (.tuple #[.int .i64 z.1,.bool z.2.1])) w:=by
   have e1:act.eval (.tmp a) = .map (some s.1):=tv;have e2:act.eval (.tmp b)=eJ y.1 y.2.1:=tb;simp [execOp,ho,e1,e2,hrun]
  refine aV hi (aC hg0) (fun c h=>by rw [ho] at h;cases h) hr ?_;rw [hd];refine hK _ _ (hback _ _ _ ⟨hb,M,hg.fin (dst:=some d) (s:=.tup mz z) (fun d' hd'=>by cases hd';exact hnb) rfl ?_⟩);exact ⟨[.int .i64 z.1,.bool z.2.1],rfl,_,_,rfl,dq _ _,_,_,rfl,fX _,rfl⟩
 rcases S4 hm hmemo hr1 hr2 with h|h
 . exact fin (0,(false,())) h (hK (s,st.set d (.tup mz ((0:Int),(false,())))) (by rw [ea,eb];exact .tail _ (.head _)))
 . exact fin (br s y.1 y.2.1,(true,())) h (hK (s,st.set d (.tup mz (br s y.1 y.2.1,(true,())))) (by rw [ea,eb];exact .head _))
theorem UE {ops:Array Oper} {i a b c:Nat} {x:Option Tmp×Op×Option (Nat×Bool)} (hx:(ops.toList.map a_)[i]? = some x) (he:x=(none,.mapUpdate 100 (.tmp a) (.tmp b) (.tmp c),none)):dC Tryz.prog HM ops i (zX a b c):=by
 intro F M0 w0 n hI hpl Q K s st act w hc h1 hK;obtain ⟨o,hi,hd,ho,hg0⟩:=aB rfl hx;subst he;unfold zX at h1 hK;split at h1;rotate_left
 . cases h1
 rename_i v ea;split at h1;rotate_left
 . cases h1
 rename_i y eb;split at h1;rotate_left
 . cases h1
 rename_i m ec;simp only [Bool.and_eq_true] at h1;obtain ⟨hv,hr1,hr2,hmv⟩:=h1;have hmv:m=br s y.1 y.2.1:=O0 hmv;obtain ⟨hfr,M,hG⟩:=id hc;obtain ⟨es,clock,hm,hmemo⟩:=hG.1;have hg:=hG.2.1;have sa:=hg.slot a;rw [ea] at sa;have tv:tm act a = .map (some s.1):=by
  have:=fp (show aw M w .raw (tm act a) v from sa);rw [this,Gt hv]
 have sb:=hg.slot b;rw [eb] at sb;have tb:=Ii sb;have sc:=hg.slot c;rw [ec] at sc;have tc:=fL sc;obtain ⟨es',clock',hput,hmemo'⟩:=S7 hm hmemo hr1 hr2;have hr:(execOp act.eval o).run Tryz.prog w = .ok .skip (w.putObj s.1 (.map es' clock')):=by
  have e1:act.eval (.tmp a) = .map (some s.1):=tv;have e2:act.eval (.tmp b)=eJ y.1 y.2.1:=tb;have e3:act.eval (.tmp c) = .int .i64 (br s y.1 y.2.1):=by have e:m=br s y.1 y.2.1:=hmv;rw [<- e];exact tc
  simp [execOp,ho,e1,e2,e3,hput]
 have hlt:s.1<w.heap.size:=(Array.getElem?_eq_some_iff.1 hm).1;have hfr':Fr (fun k=>k<w.heap.size/\¬ HM.hb s w k) w (w.putObj s.1 (.map es' clock')):=⟨rfl,rfl,rfl,by simp,fun k hk=>World.putObj_heap_other hk.2⟩
 obtain ⟨f1,hG'⟩:=hG.world (s':=s) hfr' (fun w1 _ _ hk=>⟨⟨es',clock',(hk s.1 rfl).trans (World.putObj_heap_same hlt),hmemo'⟩,fun b h=>h⟩);refine iG hi (aC hg0) (fun c h=>by rw [ho] at h;cases h) hr ?_;rw [hd];exact hK (s,st) (by rw [ea,eb,ec];exact .head _) _ _ ⟨hfr.trans f1,M,hG'⟩
abbrev RD:Type:=TR×Int×Value×Unit
def bR (s:SM):RD:=(s.2.1,(s.2.2,(.map (some s.1),())))
def dep (s:SM) (fr:Int) (m:Nat):Prop:=RdOK s.2.1 s.2.2/\0<=fr/\fr<s.2.1.1.2.1.length/\(s.2.1.1.2.1.length:Int) - fr<=m
open Classical in
noncomputable def fR (s:SM) (m:Nat) (x:RD×(Int×Int×Unit)×Unit):Out Int :=
 if x.1=bR s/\dep s x.2.1.1 m/\0<=x.2.1.2.1/\x.2.1.2.1<=9 then .ret (br s x.2.1.1 x.2.1.2.1) else .fail
open Classical in
noncomputable def f101 (s:SM) (m:Nat) (x:RD×Int×Int×Int×Unit):Out Int :=
 if x.1=bR s/\dep s x.2.1 m/\0<=x.2.2.1/\x.2.2.1<=9 then .ret (dc (br s) x.2.1 x.2.2.1 x.2.2.2.1) else .fail
open Classical in
noncomputable def ik (s:SM) (m:Nat) (x:RD×Int×Int×Unit):Out Int :=
 if x.1=bR s/\dep s x.2.1 m then .ret (cW (br s) x.2.1 x.2.2.1) else .fail
def rt (s:SM) (m:Nat):Spec:=⟨104,.call,.prod eN (.prod K2 .unit),.int .i64,false,false,fR s m⟩
def uG (s:SM) (m:Nat):Spec:=⟨115,.call,.prod eN kt,.int .i64,false,false,f101 s m⟩
def uH (s:SM) (m:Nat):Spec:=⟨116,.call,.prod eN eY,.int .i64,false,false,ik s m⟩
theorem Fm {s:SM} {m:Nat} {x:RD×(Int×Int×Unit)×Unit} {r:Int} (h:fR s m x = .ret r):x.1=bR s/\dep s x.2.1.1 m/\0<=x.2.1.2.1/\x.2.1.2.1<=9/\r=br s x.2.1.1 x.2.1.2.1:=by
 unfold fR at h
 split at h
 . rename_i hc;cases h;exact ⟨hc.1,hc.2.1,hc.2.2.1,hc.2.2.2,rfl⟩
 . cases h
theorem EQ {s:SM} {m:Nat} {x:RD×Int×Int×Int×Unit} {r:Int} (h:f101 s m x = .ret r):x.1=bR s/\dep s x.2.1 m/\0<=x.2.2.1/\x.2.2.1<=9/\r=dc (br s) x.2.1 x.2.2.1 x.2.2.2.1:=by
 unfold f101 at h
 split at h
 . rename_i hc;cases h;exact ⟨hc.1,hc.2.1,hc.2.2.1,hc.2.2.2,rfl⟩
 . cases h
theorem ER {s:SM} {m:Nat} {x:RD×Int×Int×Unit} {r:Int} (h:ik s m x = .ret r):x.1=bR s/\dep s x.2.1 m/\r=cW (br s) x.2.1 x.2.2.1:=by
 unfold ik at h
 split at h
 . rename_i hc;cases h;exact ⟨hc.1,hc.2,rfl⟩
 . cases h
def IO:List Spec:=[rm]
def tL:List (Nat×List Nat):=[]
def BQ (m:Nat) (s:SM):List Spec:=[rt s m,rm]
def Ae:Array Oper:=bp 1 (av Tryz.f115)
def Cz:Nat->Option (Nat×(SM->St->Bool×Outs HM)):=fun _=>none
theorem J8:∀ i y,Cz i=some y->bw Tryz.prog HM Ae i y.1 y.2:=fun _ _ h=>by cases h
def Ds (m:Nat):List (List Nat×HdH HM):=[([1,0],⟨fun {ρ} k s st=>cf Tryz.prog HM (fun s=>ah (BQ m s)) tL Cz 1 Ae k s st⟩)]
theorem K_ (m:Nat) (h:∀ s,∀ sp∈BQ m s,cT Tryz.prog HM s sp):bG Tryz.prog HM (av Tryz.f115) (Ds m):=(bJ (c' := .region 1 Ae false) (by kernel_rfl) (cr (fun s g sp hs=>h s sp (List.mem_filter.1 hs).1) tL J8) dU)
def v8 (m:Nat) (s:SM) (N:Nat) (x:GF):Out (SM×Int):=match fR s m (x.1,((x.2.1,(x.2.2.1,())),())) with | .ret r_1=>(match (x.2.2.1 != x.2.2.2.1) with|true=>(match kN (([r_1,1]:List Int),()) with | .ret r_3=>.ret (s,r_3) | .pan p=>.pan p | .fail=>.fail)|false=>.ret (s,r_1)) | .pan p_2=>.fail | .fail=>.fail
theorem NG (m:Nat) (s:SM) (N:Nat) (x:GF):cD Tryz.prog HM (ah IO) tL N (Ds m) Tryz.f115 false false (.prod (.prod (.prod (.prod (.int .i64) (.prod (.list (.prod (.int .i64) (.prod (.list (.int .i64)) .unit))) .unit)) (.prod (.list (.list (.int .i64))) .unit)) (.prod (.int .i64) (.prod .raw .unit))) (.prod (.int .i64) (.prod (.int .i64) (.prod (.int .i64) .unit)))) (.int .i64) s x=v8 m s N x:=by kernel_rfl
def Bn:List Spec:=[]
def pY:List (Nat×List Nat):=[(3,[1,2,3,7,9])]
def BR (m:Nat) (s:SM):List Spec:=[uG s m]
def Af:Array Oper:=bp 5 (av Tryz.f116)
def CB:Nat->Option (Nat×(SM->St->Bool×Outs HM)):=fun _=>none
theorem J9:∀ i y,CB i=some y->bw Tryz.prog HM Af i y.1 y.2:=fun _ _ h=>by cases h
def xo (m:Nat):List (List Nat×HdH HM):=[([1,1,0,1,0,0,1,1,0,0,1],⟨fun {ρ} k s st=>cf Tryz.prog HM (fun s=>ah (BR m s)) pY CB 5 Af k s st⟩)]
theorem La (m:Nat) (h:∀ s,∀ sp∈BR m s,cT Tryz.prog HM s sp):bG Tryz.prog HM (av Tryz.f116) (xo m):=(bJ (c' := .region 5 Af false) (by kernel_rfl) (cr (fun s g sp hs=>h s sp (List.mem_filter.1 hs).1) pY J9) dU)
def L102_0 (m:Nat) (s:SM) (N:Nat) (n_L102_0:Nat) (x:tY) (n_1:Int) (t9_2:Int):Out (SM×Int) :=
 ev Tryz.prog HM (ah Bn) pY N (xo m) Tryz.f116 false false (.int .i64) [1,1,0,1,0] n_L102_0 s [U,.d (.int .i64) x.2.1,.d (.int .i64) x.2.2.1,.box [.d (.int .i64) x.1.1.1.1,.d ba x.1.1.1.2.1,.d be x.1.1.2.1,.d (.int .i64) x.1.2.1,.d .raw x.1.2.2.1],U,U,U,.d (.int .i64) n_1,U,.d (.int .i64) t9_2,U,U,U,U,U,U,U,U,U,U,U]
theorem L102_0_succ (m:Nat) (s:SM) (N:Nat) (n_L102_0:Nat) (x:tY) (n_1:Int) (t9_2:Int):L102_0 m s N  (n_L102_0+1) x n_1 t9_2 =
 (match (decide (t9_2<10)) with|true=>(match f101 s m (x.1,(x.2.1,(t9_2,(x.2.2.1,())))) with | .ret r_3=>L102_0 m s N n_L102_0 x (if r_3<n_1 then r_3 else n_1) (IntKind.i64.wrap (t9_2+1)) | .pan p_4=>.fail | .fail=>.fail)|false=>.ret (s,n_1):Out (SM×Int)):=by kernel_rfl
def CJ (m:Nat) (s:SM) (N:Nat) (x:tY):Out (SM×Int):=L102_0 m s N N x 1000 0
theorem NH (m:Nat) (s:SM) (N:Nat) (x:tY):cD Tryz.prog HM (ah Bn) pY N (xo m) Tryz.f116 false false (.prod (.prod (.prod (.prod (.int .i64) (.prod (.list (.prod (.int .i64) (.prod (.list (.int .i64)) .unit))) .unit)) (.prod (.list (.list (.int .i64))) .unit)) (.prod (.int .i64) (.prod .raw .unit))) (.prod (.int .i64) (.prod (.int .i64) .unit))) (.int .i64) s x=CJ m s N x:=by kernel_rfl
def BP:List Spec:=[rk,rm]
def jk:List (Nat×List Nat):=[(8,[2,3,7,40,41,42])]
def rE (m:Nat) (s:SM):List Spec:=[rk,uH s m,rm]
def AD:Array Oper:=bp 1 (av Tryz.f104)
def vX:Nat->Option (Nat×(SM->St->Bool×Outs HM)):=fun i=>match i with|3=>some (0,zI 15 13 14)|_=>none
theorem KE:∀ i y,vX i=some y->bw Tryz.prog HM AD i y.1 y.2:=by
 intro i y h
 unfold vX at h
 split at h
 . cases h;exact (Sv (i:=3) (d:=15) (a:=13) (b:=14) (x:=(some 15,.lookup 100 (.tmp 13) (.tmp 14) true,none)) (by kernel_rfl) rfl).one
 . cases h
def AE:Array Oper:=bp 10 (av Tryz.f104)
def CF:Nat->Option (Nat×(SM->St->Bool×Outs HM)):=fun _=>none
theorem KC:∀ i y,CF i=some y->bw Tryz.prog HM AE i y.1 y.2:=fun _ _ h=>by cases h
def AF:Array Oper:=bp 13 (av Tryz.f104)
def vY:Nat->Option (Nat×(SM->St->Bool×Outs HM)):=fun i=>match i with|4=>some (0,zX 58 59 60)|_=>none
theorem KD:∀ i y,vY i=some y->bw Tryz.prog HM AF i y.1 y.2:=by
 intro i y h
 unfold vY at h
 split at h
 . cases h;exact (UE (i:=4) (a:=58) (b:=59) (c:=60) (x:=(none,.mapUpdate 100 (.tmp 58) (.tmp 59) (.tmp 60),none)) (by kernel_rfl) rfl).one
 . cases h
def xB (m:Nat):List (List Nat×HdH HM):=[([1,0,0],⟨fun {ρ} k s st=>cf Tryz.prog HM (fun s=>ah (rE m s)) jk vX 1 AD k s st⟩),
 ([1,1,1,1,0,1,0,0,1,1,0,0,1],⟨fun {ρ} k s st=>cf Tryz.prog HM (fun s=>ah (rE m s)) jk CF 10 AE k s st⟩),
 ([1,1,1,1,1,1,0],⟨fun {ρ} k s st=>cf Tryz.prog HM (fun s=>ah (rE m s)) jk vY 13 AF k s st⟩)]
theorem Ls (m:Nat) (h:∀ s,∀ sp∈rE m s,cT Tryz.prog HM s sp):bG Tryz.prog HM (av Tryz.f104) (xB m):=(bJ (c' := .region 1 AD false) (by kernel_rfl) (cr (fun s g sp hs=>h s sp (List.mem_filter.1 hs).1) jk KE) (bJ (c' := .region 10 AE false) (by kernel_rfl) (cr (fun s g sp hs=>h s sp (List.mem_filter.1 hs).1) jk KC) (bJ (c' := .region 13 AF false) (by kernel_rfl) (cr (fun s g sp hs=>h s sp (List.mem_filter.1 hs).1) jk KD) dU)))
def L99_0 (m:Nat) (s:SM) (N:Nat) (n_L99_0:Nat) (x:tX) (l_3:(List Int)) (t42_4:Int):Out (SM×Int) :=
 ev Tryz.prog HM (ah BP) jk N (xB m) Tryz.f104 false false (.int .i64) [1,1,1,1,0,1,0] n_L99_0 s [U,U,.box [.d (.int .i64) x.1.1.1.1,.d ba x.1.1.1.2.1,.d be x.1.1.2.1,.d (.int .i64) x.1.2.1,.d .raw x.1.2.2.1],.box [.d (.int .i64) x.2.1.1,.d (.int .i64) x.2.1.2.1],U,U,U,.own (.int .i64) l_3 false,U,U,U,U,U,U,U,U,U,U,U,U,U,U,U,U,U,U,U,U,U,U,U,U,U,U,U,U,U,U,U,U,.d (.list (.int .i64)) (List.getD x.1.1.2.1 x.2.1.1.toNat ([]:List Int)),.d (.int .i64) (ae (List.getD x.1.1.2.1 x.2.1.1.toNat ([]:List Int))),.d (.int .i64) t42_4,U,U,U,U,U,U,U,U,U,U,U,U,U,U,U,U,U,U,U]
theorem L99_0_succ (m:Nat) (s:SM) (N:Nat) (n_L99_0:Nat) (x:tX) (l_3:(List Int)) (t42_4:Int):L99_0 m s N  (n_L99_0+1) x l_3 t42_4 =
 (match (decide (t42_4<(ae (List.getD x.1.1.2.1 x.2.1.1.toNat [])))) with|true=>bif (ax t42_4 (List.getD x.1.1.2.1 x.2.1.1.toNat []).length) then match ik s m (x.1,((List.getD (List.getD x.1.1.2.1 x.2.1.1.toNat []) t42_4.toNat 0),(x.2.1.2.1,()))) with | .ret r_5=>bif (bQ l_3 ([r_5]:List Int)) then L99_0 m s N n_L99_0 x (l_3++([r_5]:List Int)) (IntKind.i64.wrap (t42_4+1)) else .fail | .pan p_6=>.fail | .fail=>.fail else .fail|false=>match kN (l_3,()) with | .ret r_7=>bif (jW x.1.2.2.1 s.1 && (cZ x.2.1.1 && (cZ x.2.1.2.1 && gj r_7 (br s x.2.1.1 x.2.1.2.1)))) then .ret (s,r_7) else .fail | .pan p=>.pan p | .fail=>.fail:Out (SM×Int)):=by kernel_rfl
def xg (m:Nat) (s:SM) (N:Nat) (x:tX):Out (SM×Int):=bif (jW x.1.2.2.1 s.1 && (cZ x.2.1.1 && cZ x.2.1.2.1)) then mD (.ret (s,(br s x.2.1.1 x.2.1.2.1))) (match je (x.1.1.1,(x.2.1.1,(x.1.2.1,(x.2.1.2.1,())))) with | .ret r_1=>(match (!r_1) with|true=>bif (bQ [] ([1000]:List Int)) then bif (ax x.2.1.1 x.1.1.2.1.length) then L99_0 m s N N x ([]++([1000]:List Int)) 0 else .fail else .fail|false=>bif (ax x.2.1.1 x.1.1.2.1.length) then L99_0 m s N N x [] 0 else .fail) | .pan p=>.pan p | .fail=>.fail) else .fail
theorem OR (m:Nat) (s:SM) (N:Nat) (x:tX):cD Tryz.prog HM (ah BP) jk N (xB m) Tryz.f104 false false (.prod (.prod (.prod (.prod (.int .i64) (.prod (.list (.prod (.int .i64) (.prod (.list (.int .i64)) .unit))) .unit)) (.prod (.list (.list (.int .i64))) .unit)) (.prod (.int .i64) (.prod .raw .unit))) (.prod (.prod (.int .i64) (.prod (.int .i64) .unit)) .unit)) (.int .i64) s x=xg m s N x:=by kernel_rfl
def BF:List Spec:=[]
def qd:List (Nat×List Nat):=[(3,[1,3,5])]
def BX (m:Nat) (s:SM):List Spec:=[rt s m]
def Ax:Array Oper:=bp 5 (av Tryz.f72)
def CD:Nat->Option (Nat×(SM->St->Bool×Outs HM)):=fun _=>none
theorem Kt:∀ i y,CD i=some y->bw Tryz.prog HM Ax i y.1 y.2:=fun _ _ h=>by cases h
def xv (m:Nat):List (List Nat×HdH HM):=[([1,1,0,1,0,0,1,1,0,0,1],⟨fun {ρ} k s st=>cf Tryz.prog HM (fun s=>ah (BX m s)) qd CD 5 Ax k s st⟩)]
theorem Lm (m:Nat) (h:∀ s,∀ sp∈BX m s,cT Tryz.prog HM s sp):bG Tryz.prog HM (av Tryz.f72) (xv m):=(bJ (c' := .region 5 Ax false) (by kernel_rfl) (cr (fun s g sp hs=>h s sp (List.mem_filter.1 hs).1) qd Kt) dU)
def L63_0 (m:Nat) (s:SM) (N:Nat) (n_L63_0:Nat) (x:nh) (n_1:Int) (t5_2:Int):Out (SM×Int) :=
 ev Tryz.prog HM (ah BF) qd N (xv m) Tryz.f72 false false (.int .i64) [1,1,0,1,0] n_L63_0 s [U,.box [.d (.int .i64) x.1.1.1.1,.d ba x.1.1.1.2.1,.d be x.1.1.2.1,.d (.int .i64) x.1.2.1,.d .raw x.1.2.2.1],U,.d (.int .i64) n_1,U,.d (.int .i64) t5_2,U,U,U,U,U,U,U,U,U,U]
theorem L63_0_succ (m:Nat) (s:SM) (N:Nat) (n_L63_0:Nat) (x:nh) (n_1:Int) (t5_2:Int):L63_0 m s N  (n_L63_0+1) x n_1 t5_2 =
 (match (decide (t5_2<10)) with|true=>(match fR s m (x.1,((0,(t5_2,())),())) with | .ret r_3=>L63_0 m s N n_L63_0 x (if r_3<n_1 then r_3 else n_1) (IntKind.i64.wrap (t5_2+1)) | .pan p_4=>.fail | .fail=>.fail)|false=>.ret (s,n_1):Out (SM×Int)):=by kernel_rfl
def Db (m:Nat) (s:SM) (N:Nat) (x:nh):Out (SM×Int):=L63_0 m s N N x 1000 0
theorem On (m:Nat) (s:SM) (N:Nat) (x:nh):cD Tryz.prog HM (ah BF) qd N (xv m) Tryz.f72 false false (.prod (.prod (.prod (.prod (.int .i64) (.prod (.list (.prod (.int .i64) (.prod (.list (.int .i64)) .unit))) .unit)) (.prod (.list (.list (.int .i64))) .unit)) (.prod (.int .i64) (.prod .raw .unit))) .unit) (.int .i64) s x=Db m s N x:=by kernel_rfl
open Go.RowKit (Below)
theorem wr {x:Int} (h1 : -9223372036854775808<=x) (h2:x<=9223372036854775807):IntKind.i64.wrap x=x:=by
 unfold IntKind.wrap;simp only [IntKind.bits,IntKind.signed];simp;split<;>omega
theorem bK:1000000<=fuel:=by unfold fuel;decide
theorem pg {α:Type} {l:List α} {i:Int} (h0:0<=i) (h:i<l.length) (z:α):l.drop i.toNat=l.getD i.toNat z :: l.drop (i+1).toNat:=by
 have hlt:i.toNat<l.length:=by omega
 rw [List.drop_eq_getElem_cons hlt,List.getD_eq_getElem?_getD,List.getElem?_eq_getElem hlt];have:(i+1).toNat=i.toNat+1:=by omega
 rw [this];rfl
theorem ph {α:Type} {l:List α} {i:Int} (h:(l.length:Int)<=i):l.drop i.toNat=[]:=List.drop_eq_nil_of_le (by omega)
theorem fT {i:Int} {n:Nat}:ax i n=true<->0<=i/\i<n:=by
 unfold ax;simp
theorem jh {α:Type} {l:List α} {n:Nat} {z:α} (h:n<l.length):l.getD n z∈l:=by
 rw [List.getD_eq_getElem?_getD,List.getElem?_eq_getElem h];exact List.getElem_mem h
theorem Sy (l:List Int) (hl:l.length<=2000) (hx:∀ x∈l,0<=x/\x<=1000):∀ (d f:Nat) (i n:Int),d<f->0<=i->i+d=l.length->0<=n->n<=1000 ->
 L117_0 fuel f (l,()) n i = .ret ((l.drop i.toNat).foldl (fun n x=>if n+x<1000 then n+x else 1000) n):=by
 intro d
 induction d with
 | zero =>
  intro f i n hf h0 hi hn hn2;obtain ⟨f,rfl⟩:∃ f',f=f'+1:=⟨f - 1,by omega⟩
  rw [L117_0_succ];have:decide (i<ae (l,()).1)=false:=by unfold ae;simp;omega
  rw [this,ph (by omega)];rfl
 | succ d ih =>
  intro f i n hf h0 hi hn hn2;obtain ⟨f,rfl⟩:∃ f',f=f'+1:=⟨f - 1,by omega⟩
  rw [L117_0_succ];have h1:decide (i<ae (l,()).1)=true:=by unfold ae;simp;omega
  have h2:ax i ((l,()):List Int×Unit).1.length=true:=fT.2 ⟨h0,by show i<(l.length:Int);omega⟩;rw [h1,h2];have hg:=hx _ (jh (l:=l) (n:=i.toNat) (z:=0) (by omega));simp only [cond_true];rw [wr (x:=i+1) (by omega) (by omega),wr (x:=n+_) (by show _<=n+l.getD i.toNat 0;omega) (by show n+l.getD i.toNat 0<=_;omega),pg h0 (by omega) 0];simp only [List.foldl_cons];exact ih f (i+1) _ (by omega) (by omega) (by omega) (by split<;>omega) (by split<;>omega)
theorem Jq {l:List Int} (hl:l.length<=2000) (hx:∀ x∈l,0<=x/\x<=1000):kN (l,()) = .ret (jz l):=by
 have:=bK;exact Sy l hl hx l.length fuel 0 0 (by omega) (by omega) (by omega) (by omega) (by omega)
theorem Ra {t:ac} {fr place fg:Int} (h0:0<=fr) (h1:fr<t.2.1.length) (h2:0<=place) (h3:place<((t.2.1.getD fr.toNat (0,([],()))).2.1).length):je (t,(fr,(place,(fg,())))) = .ret (cv t place fr fg):=by
 show oK fuel _=_;unfold oK;have e1:ax fr t.2.1.length=true:=fT.2 ⟨h0,h1⟩;have e2:ax place ((t.2.1.getD fr.toNat ((0:Int),(([]:List Int),()))).2.1).length=true:=fT.2 ⟨h2,h3⟩;simp only [e1,e2,cond_true];unfold cv aH;cases h:(((t.2.1.getD fr.toNat ((0:Int),(([]:List Int),()))).2.1).getD place.toNat 0 == -1) with
 | true=>simp only [Bool.true_or]
 | false=>simp only [Bool.false_or]
theorem uA {n:Int} (h0 : -1000000<=n) (h1:n<=1000000):cZ n=true:=by
 unfold cZ;simp;omega
theorem GC (s:SM) (m:Nat) (hd:RdOK s.2.1 s.2.2) {fr fg:Int} (h0:0<=fr) (hfr:fr<s.2.1.1.2.1.length) (hm:(s.2.1.1.2.1.length:Int) - fr<=m+1) (hfg:0<=fg) (hfg9:fg<=9)
 {K:List Int} (hK:s.2.1.2.1.getD fr.toNat []=K) {x:RD×(Int×Int×Unit)×Unit} (hx:x=(bR s,((fr,(fg,())),()))) :
 ∀ (d f:Nat) (i:Int) (l:List Int),d<f->0<=i->i+d=K.length->l.length<=1+i ->
  l++(K.drop i.toNat).map (fun c=>cW (br s) c fg)=(if cv s.2.1.1 s.2.2 fr fg then [] else [1000])++K.map (fun c=>cW (br s) c fg) ->
  L99_0 m s fuel f x l i = .ret (s,br s fr fg):=by
 have hk:=hd.kids fr.toNat (by omega);rw [hK] at hk;have ek:List.getD x.1.1.2.1 x.2.1.1.toNat ([]:List Int)=K:=by rw [hx];exact hK
 have ex1:x.1=bR s:=by rw [hx]
 have ex2:x.2.1.1=fr:=by rw [hx]
 have ex3:x.2.1.2.1=fg:=by rw [hx]
 have ex4:x.1.2.2.1 = .map (some s.1):=by rw [hx];rfl
 intro d
 induction d with
 | zero =>
  intro f i l hf hi0 hi hl he;obtain ⟨f,rfl⟩:∃ f',f=f'+1:=⟨f - 1,by omega⟩
  rw [L99_0_succ,ek,ex2,ex3,ex4];have h1:decide (i<ae K)=false:=decide_eq_false (by unfold ae;omega);rw [ph (by omega),List.map_nil,List.append_nil] at he;have hs:kN (l,()) = .ret (br s fr fg):=by
   rw [Jq (by have:=hk.1;omega) ?_]
   . show _=Out.ret (LV s.2.1 s.2.2 fr fg);rw [KZ hd h0 hfr,hK,he];rfl
   . intro x hx;rw [he] at hx;rcases List.mem_append.1 hx with hx|hx
     . split at hx
       . cases hx
       . rw [List.mem_singleton] at hx;omega
     . obtain ⟨c,_,rfl⟩:=List.mem_map.1 hx;exact Fp fun g=>(Dq _ _ _ _).1
  have e1:cZ fr=true:=uA (by omega) (by have:=hd.len;omega);have e2:cZ fg=true:=uA (by omega) (by omega);rw [h1,hs];simp only [jW,beq_self_eq_true,e1,e2,gj,Bool.and_true,cond_true]
 | succ d ih =>
  intro f i l hf hi0 hi hl he;obtain ⟨f,rfl⟩:∃ f',f=f'+1:=⟨f - 1,by omega⟩
  rw [L99_0_succ,ek,ex3];have h1:decide (i<ae K)=true:=decide_eq_true (by unfold ae;omega);have h2:ax i K.length=true:=fT.2 ⟨hi0,by omega⟩;have hc:=hk.2 _ (jh (l:=K) (n:=i.toNat) (z:=0) (by omega));have h3:ik s m (x.1,(List.getD K i.toNat (0:Int),(fg,()))) = .ret (cW (br s) (List.getD K i.toNat (0:Int)) fg):=by
   unfold ik;rw [if_pos ⟨ex1,hd,by dsimp only;omega,by dsimp only;omega,by dsimp only;omega⟩]
  have h4:bQ l [cW (br s) (List.getD K i.toNat (0:Int)) fg]=true:=by
   unfold bQ;have:=hk.1;simp;omega
  rw [h1,h2,h3];simp only [h4,cond_true];rw [wr (x:=i+1) (by omega) (by have:=hk.1;omega)];refine ih f (i+1) _ (by omega) (by omega) (by omega) (by simp;omega) ?_;rw [<- he,pg hi0 (by omega) 0,List.map_cons,List.append_assoc];rfl
theorem KR {s:SM} {m:Nat} {x:RD×(Int×Int×Unit)×Unit} {r:Int} (h:fR s (m+1) x = .ret r):xg m s fuel x = .ret (s,r):=by
 obtain ⟨hx,⟨hd,h0,hfr,hm⟩,hg0,hg9,rfl⟩:=Fm h;obtain ⟨rd,⟨fr,fg,u⟩,u2⟩:=x;dsimp only at hx h0 hfr hm hg0 hg9;subst hx;have hfb:=bK;have hk:=hd.kids fr.toNat (by omega);have e1:cZ fr=true:=uA (by omega) (by have:=hd.len;omega);have e2:cZ fg=true:=uA (by omega) (by omega);have e3:ax fr s.2.1.2.1.length=true:=fT.2 ⟨h0,by rw [hd.made];exact hfr⟩;have e4:je (s.2.1.1,(fr,(s.2.2,(fg,())))) = .ret (cv s.2.1.1 s.2.2 fr fg):=Ra h0 hfr hd.pos (hd.seen fr.toNat (by omega));have e5:bQ ([]:List Int) ([(1000:Int)]:List Int)=true:=by unfold bQ;simp
 unfold xg;dsimp only [bR];simp only [jW,beq_self_eq_true,e1,e2,e3,e4,e5,Bool.and_true,cond_true];refine LH ?_;cases hf:cv s.2.1.1 s.2.2 fr fg with
 | true =>
  simp only [Bool.not_true];refine (GC s m hd h0 hfr (by omega) hg0 hg9 rfl rfl (s.2.1.2.1.getD fr.toNat []).length fuel 0 [] (by have:=hk.1;omega) (by omega) (by rw [Int.zero_add]) (by simp) ?_).symm;rw [hf];simp
 | false =>
  simp only [Bool.not_false];refine (GC s m hd h0 hfr (by omega) hg0 hg9 rfl rfl (s.2.1.2.1.getD fr.toNat []).length fuel 0 _ (by have:=hk.1;omega) (by omega) (by rw [Int.zero_add]) (by simp) ?_).symm;rw [hf];simp
theorem KM {s:SM} {m:Nat} {x:RD×Int×Int×Int×Unit} {r:Int} (h:f101 s m x = .ret r):v8 m s fuel x = .ret (s,r):=by
 obtain ⟨hx,hdp,hg0,hg9,rfl⟩:=EQ h;obtain ⟨rd,fr,fg,p,u⟩:=x;dsimp only at hx hdp hg0 hg9;subst hx;unfold v8;have e:fR s m (bR s,((fr,(fg,())),())) = .ret (br s fr fg):=by
  unfold fR;rw [if_pos ⟨rfl,hdp,hg0,hg9⟩]
 have hb:=Dq s.2.1 s.2.2 fr fg;have e2:kN ([br s fr fg,1],()) = .ret (jz [br s fr fg,1]):=Jq (by simp) (by intro x hx;simp at hx;rcases hx with rfl|rfl;exact hb;omega);simp only [e];unfold dc
 by_cases hp:fg=p
 . subst hp;simp
 . have:(fg != p)=true:=by simpa using hp
   simp only [this,e2,if_neg hp]
theorem Sx (s:SM) (m:Nat) {fr p:Int} (hdp:dep s fr m):∀ (d f:Nat) (i n:Int),d<f->0<=i->i+d=10 ->
 L102_0 m s fuel f (bR s,(fr,(p,()))) n i = .ret (s,((List.range 10).drop i.toNat).foldl (fun n (g:Nat)=>if dc (br s) fr g p<n then dc (br s) fr g p else n) n):=by
 intro d
 induction d with
 | zero =>
  intro f i n hf h0 hi;obtain ⟨f,rfl⟩:∃ f',f=f'+1:=⟨f - 1,by omega⟩
  rw [L102_0_succ];have:decide (i<10)=false:=by simp;omega
  rw [this,ph (by simp;omega)];rfl
 | succ d ih =>
  intro f i n hf h0 hi;obtain ⟨f,rfl⟩:∃ f',f=f'+1:=⟨f - 1,by omega⟩
  rw [L102_0_succ];have h1:decide (i<10)=true:=by simp;omega
  have h2:f101 s m (bR s,(fr,(i,(p,())))) = .ret (dc (br s) fr i p):=by
   unfold f101;rw [if_pos ⟨rfl,hdp,h0,by dsimp only;omega⟩]
  simp only [h1,h2];rw [wr (by omega) (by omega),pg h0 (by simp;omega) 0,List.foldl_cons];have e:(((List.range 10).getD i.toNat 0:Nat):Int)=i:=by
   rw [List.getD_eq_getElem?_getD,List.getElem?_range (by omega)];simp;omega
  rw [e];exact ih f (i+1) _ (by omega) (by omega) (by omega)
theorem KN {s:SM} {m:Nat} {x:RD×Int×Int×Unit} {r:Int} (h:ik s m x = .ret r):CJ m s fuel x = .ret (s,r):=by
 obtain ⟨hx,hdp,rfl⟩:=ER h;obtain ⟨rd,fr,p,u⟩:=x;dsimp only at hx hdp;subst hx;have:=bK;exact Sx s m hdp 10 fuel 0 1000 (by omega) (by omega) (by omega)
def eS (s:SM):Int:=(List.range 10).foldl (fun n (g:Nat)=>if br s 0 g<n then br s 0 g else n) 1000
open Classical in
noncomputable def jP (s:SM) (x:RD×Unit):Out Int:=if x.1=bR s/\RdOK s.2.1 s.2.2/\0<s.2.1.1.2.1.length then .ret (eS s) else .fail
theorem Qr {s:SM} {x:RD×Unit} {r:Int} (h:jP s x = .ret r):x.1=bR s/\RdOK s.2.1 s.2.2/\0<s.2.1.1.2.1.length/\r=eS s:=by
 unfold jP at h;split at h
 . rename_i hc;cases h;exact ⟨hc.1,hc.2.1,hc.2.2,rfl⟩
 . cases h
theorem Sz (s:SM) {m:Nat} (hd:RdOK s.2.1 s.2.2) (hn:0<s.2.1.1.2.1.length) (hm:s.2.1.1.2.1.length<=m):∀ (d f:Nat) (i n:Int),d<f->0<=i->i+d=10 ->
 L63_0 m s fuel f (bR s,()) n i = .ret (s,((List.range 10).drop i.toNat).foldl (fun n (g:Nat)=>if br s 0 g<n then br s 0 g else n) n):=by
 intro d
 induction d with
 | zero =>
  intro f i n hf h0 hi;obtain ⟨f,rfl⟩:∃ f',f=f'+1:=⟨f - 1,by omega⟩
  rw [L63_0_succ];have:decide (i<10)=false:=by simp;omega
  rw [this,ph (by simp;omega)];rfl
 | succ d ih =>
  intro f i n hf h0 hi;obtain ⟨f,rfl⟩:∃ f',f=f'+1:=⟨f - 1,by omega⟩
  rw [L63_0_succ];have h1:decide (i<10)=true:=by simp;omega
  have h2:fR s m (bR s,((0,(i,())),())) = .ret (br s 0 i):=by
   unfold fR;rw [if_pos ⟨rfl,⟨hd,(show (0:Int)<=0 from Int.le_refl 0),by dsimp only;omega,by dsimp only;omega⟩,h0,by dsimp only;omega⟩]
  simp only [h1,h2];rw [wr (by omega) (by omega),pg h0 (by simp;omega) 0,List.foldl_cons];have e:(((List.range 10).getD i.toNat 0:Nat):Int)=i:=by
   rw [List.getD_eq_getElem?_getD,List.getElem?_range (by omega)];simp;omega
  rw [e];exact ih f (i+1) _ (by omega) (by omega) (by omega)
theorem KP {s:SM} {m:Nat} {x:RD×Unit} {r:Int} (h:jP s x = .ret r) (hm:1000<=m):Db m s fuel x = .ret (s,r):=by
 obtain ⟨hx,hd,hn,rfl⟩:=Qr h;obtain ⟨rd,u⟩:=x;dsimp only at hx;subst hx;have:=bK;have:=hd.len;exact Sz s hd hn (by omega) 10 fuel 0 1000 (by omega) (by omega) (by omega)
theorem qq (M:ai) (s:SM) (w w':World) (h:Inv.I Tryz.prog w) (hs:HM.I s M w) (hf:Fr (fun k=>k<w.heap.size/\¬ HM.hb s w k) w w'):Inv.I Tryz.prog w':=by
 obtain ⟨es,c,hm,_⟩:=hs;have hne:∀ (g:Nat) C E fz,w.heap[g]? = some (.cells C E fz)->w'.heap[g]? = some (.cells C E fz):=fun g C E fz hg=>by
  rw [hf.block g ⟨(Array.getElem?_eq_some_iff.1 hg).1,fun e=>by rw [show g=s.1 from e,hm] at hg;cases hg⟩];exact hg
 obtain ⟨h1,mm,h2⟩:=h;refine ⟨?_,mm,?_⟩
 . unfold Lib.TabIs World.var? at *
   cases hg : Tryz.prog.globalNamed "internal/strconv.uint64pow10" with
   | none=>simp [hg] at h1
   | some g =>
    simp only [hg,Option.bind_some] at h1 ⊢;cases ho:w.heap[g]? with
    | none=>rw [ho] at h1;cases h1
    | some ob =>
     rw [ho] at h1;cases ob with
     | cells C E fz=>rw [hne g C E fz ho];exact h1
     | _=>cases h1
 . unfold World.cell? at h2 ⊢;cases ho:w.heap[1]? with
   | none=>simp [ho] at h2
   | some ob =>
    cases ob with
    | cells C E fz=>simp only [ho] at h2;simp only [hne 1 C E fz ho];exact h2
    | _=>simp [ho] at h2
theorem sZ {H:Hole} {s:H.σ} {sp:Spec} (h:am Tryz.prog sp):cT Tryz.prog H s sp:=.inl h
theorem sY:∀ (m:Nat) (s:SM),fe Tryz.prog HM s (rt s m)/\fe Tryz.prog HM s (uG s m)/\fe Tryz.prog HM s (uH s m):=by
 intro m
 induction m with
 | zero =>
  intro s;have hno:∀ fr,¬ dep s fr 0:=fun fr h=>by obtain ⟨_,h1,h2,h3⟩:=h;omega
  refine ⟨fun x M w vs r _ _ _ _ _ hr=>?_,fun x M w vs r _ _ _ _ _ hr=>?_,fun x M w vs r _ _ _ _ _ hr=>?_⟩
  . exact absurd (Fm hr).2.1 (hno _)
  . exact absurd (EQ hr).2.1 (hno _)
  . exact absurd (ER hr).2.1 (hno _)
 | succ m ih =>
  have h99:∀ s,fe Tryz.prog HM s (rt s (m+1)):=fun s=>by
   refine qC (H:=HM) mixed (l:=BP) (all_cons sM (all_cons sN aO)) Tryz.func104 rfl (Ls m fun s sp hs=>?_) jk oL (fun M w w'=>qq M s w w') rfl rfl fun x r hr=>⟨fuel,?_⟩
   . simp only [rE,List.mem_cons,List.not_mem_nil,or_false] at hs;rcases hs with rfl|rfl|rfl
     . exact sZ sM
     . exact .inr ⟨rfl,(ih s).2.2⟩
     . exact sZ sN
   . exact (OR m s fuel x).trans (KR hr)
  have h101:∀ s,fe Tryz.prog HM s (uG s (m+1)):=fun s=>by
   refine qC (H:=HM) mixed (l:=IO) (all_cons sN aO) Tryz.func115 rfl (K_ (m+1) fun s sp hs=>?_) tL oL (fun M w w'=>qq M s w w') rfl rfl fun x r hr=>⟨fuel,?_⟩
   . simp only [BQ,List.mem_cons,List.not_mem_nil,or_false] at hs;rcases hs with rfl|rfl
     . exact .inr ⟨rfl,h99 s⟩
     . exact sZ sN
   . exact (NG (m+1) s fuel x).trans (KM hr)
  have h102:∀ s,fe Tryz.prog HM s (uH s (m+1)):=fun s=>by
   refine qC (H:=HM) mixed (l:=Bn) aO Tryz.func116 rfl (La (m+1) fun s sp hs=>?_) pY oL (fun M w w'=>qq M s w w') rfl rfl fun x r hr=>⟨fuel,?_⟩
   . simp only [BR,List.mem_cons,List.not_mem_nil,or_false] at hs;subst hs;exact .inr ⟨rfl,h101 s⟩
   . exact (NH (m+1) s fuel x).trans (KN hr)
  exact fun s=>⟨h99 s,h101 s,h102 s⟩
def ID (s:SM):Spec:=⟨72,.call,.prod eN .unit,.int .i64,false,false,jP s⟩
theorem D_ (s:SM):fe Tryz.prog HM s (ID s):=by
 refine qC (H:=HM) mixed (l:=BF) aO Tryz.func72 rfl (Lm 1000 fun s sp hs=>?_) qd oL (fun M w w'=>qq M s w w') rfl rfl fun x r hr=>⟨fuel,?_⟩
 . simp only [BX,List.mem_cons,List.not_mem_nil,or_false] at hs;subst hs;exact .inr ⟨rfl,(sY 1000 s).1⟩
 . exact (On 1000 s fuel x).trans (KP hr (by omega))
end Go.V
end
