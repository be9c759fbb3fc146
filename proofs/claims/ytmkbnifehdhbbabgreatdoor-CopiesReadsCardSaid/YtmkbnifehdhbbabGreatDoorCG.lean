/- Part. -/
import Derived.Test.YtmkbnifehdhbbabGreatDoorCA
import Derived.Test.YtmkbnifehdhbbabGreatDoorVV
import Derived.Test.YtmkbnifehdhbbabGreatDoorC1
set_option linter.all false
noncomputable section
namespace Go.V
open Go.Proofs
open Go.RowKit (Below)
section
variable {P : Program} [Inv P] {n : Nat} {ops : Array Oper} {Q : Exit → Act → World → Prop} {i : Nat} {o : Oper} {a : Act} {w w' : World} {K : Act → World → Prop}
theorem aV (hi:ops[i]? = some o) (hw:Region.wanted o (yielded ops a.tmps)=true) (hd:∀ c,o.op ≠ .defer c) {v:Value} (hr:(execOp a.eval o).run P w = .ok (.value v) w') (hK:K (a.put o.dst v) w'):wpOpIn (aA none) n P ops Q i K a w:=by
 unfold wpOpIn;simp only [hi];rw [hw,if_pos rfl];refine ⟨fun f _=>fS none f,?_⟩;rw [Oper.semAt_eq _ _ _ fun c e=>absurd e (hd c),hr];exact hK
theorem qK (hi:ops[i]? = some o) (hw:Region.wanted o (yielded ops a.tmps)=false) (hK:K (a.put o.dst undef) w):wpOpIn (aA none) n P ops Q i K a w:=by
 unfold wpOpIn;simp only [hi];rw [hw,if_neg (by simp)];exact ⟨fun f _=>fS none f,hK⟩
theorem gz (hi:ops[i]? = some o) (hw:Region.wanted o (yielded ops a.tmps)=true) (hd:∀ c,o.op ≠ .defer c) {f:FuncId} {args:Array Value} (hr:(execOp a.eval o).run P w = .ok (.enter f args) w')
 (hK:Calls P f args w' fun e w2=>∃ v,e = .returned v/\K (a.put o.dst v) w2):wpOpIn (aA none) n P ops Q i K a w:=by
 unfold wpOpIn;simp only [hi];rw [hw,if_pos rfl];refine ⟨fun f _=>fS none f,?_⟩;rw [Oper.semAt_eq _ _ _ fun c e=>absurd e (hd c),hr];refine ⟨fun hd=>(by rw [jg] at hd;cases hd),jJ (hK.mono ?_)⟩;rintro e w2 ⟨v,rfl,h⟩;exact h
theorem aC (h:o.guard=none):Region.wanted o (yielded ops a.tmps)=true:=by unfold Region.wanted;rw [h]
theorem iT {j t:Nat} {want b:Bool} (h:o.guard=some (j,want)) (ht:(ops[j]?).bind (·.dst)=some t) (hlt:t<a.tmps.size) (hv:tm a t = .bool b):Region.wanted o (yielded ops a.tmps)=(b==want):=by
 unfold Region.wanted;rw [h];have hy:yielded ops a.tmps j=some b:=by
  unfold yielded;rw [ht];have:a.tmps[t]? = some (.bool b):=by
   rw [<- hv];simp [tm,hlt]
  simp only [Option.bind_some,this]
 dsimp only;rw [hy];cases b<;>cases want<;>rfl
theorem ay {d:Nat} {v:Value} (h:d<a.tmps.size):tm (a.put (some d) v) d=v:=by
 simp [tm,Act.put,h]
theorem aj {d j:Nat} {v:Value} (h:j≠d):tm (a.put (some d) v) j=tm a j:=by
 simp [tm,Act.put,Array.getElem?_setIfInBounds,Ne.symm h]
theorem aG {d:Nat} {v:Value}:(a.put (some d) v).tmps.size=a.tmps.size:=by simp [Act.put]
theorem Ex {d:Nat} {v:Value}:(a.put (some d) v).defers=a.defers:=by simp [Act.put]
end
def ip (id:Nat):Code->Option (Array Oper)
 | .region k ops _=>bif k==id then some ops else none
 | .seq a b=>(match ip id a with|some c=>some c|none=>ip id b)
 | .block _ b=>ip id b
 | .scope b=>ip id b
 | .cond _ a b=>(match ip id a with|some c=>some c|none=>ip id b)
 | .loop b=>ip id b
 | _=>none
def a_ (o:Oper):Option Tmp×Op×Option (Nat×Bool):=(o.dst,o.op,o.guard)
theorem fQ {a:Act} {w:World} {o:Oper} {j:Nat} (ho:o.op = .move (.tmp j)):(execOp a.eval o).run Tryz.prog w = .ok (.value (tm a j)) w:=by
 simp [execOp,ho,Act.eval]
theorem tj {a:Act} {w:World} {o:Oper} {j:Nat} (ho:o.op = .assign (.tmp j)):(execOp a.eval o).run Tryz.prog w = .ok (.value (tm a j)) w:=by
 simp [execOp,ho,Act.eval]
theorem iG {P:Program} [Inv P] {n:Nat} {ops:Array Oper} {Q:Exit->Act->World->Prop} {i:Nat} {o:Oper} {a:Act} {w w':World} {K:Act->World->Prop} (hi:ops[i]? = some o) (hw:Region.wanted o (yielded ops a.tmps)=true) (hd:∀ c,o.op ≠ .defer c)
 (hr:(execOp a.eval o).run P w = .ok .skip w') (hK:K (a.put o.dst undef) w'):wpOpIn (aA none) n P ops Q i K a w:=by
 unfold wpOpIn;simp only [hi];rw [hw,if_pos rfl];refine ⟨fun f _=>fS none f,?_⟩;rw [Oper.semAt_eq _ _ _ fun c e=>absurd e (hd c),hr];exact hK
theorem Uc {P:Program} [Inv P] {n:Nat} {ops:Array Oper} {Q:Exit->Act->World->Prop} {i:Nat} {o:Oper} {a:Act} {w w':World} {K:Act->World->Prop} (hi:ops[i]? = some o) (hw:Region.wanted o (yielded ops a.tmps)=true) (hd:∀ c,o.op ≠ .defer c) {f:FuncId} {args:Array Value} (hr:(execOp a.eval o).run P w = .ok (.enter f args) w')
 (hK:Calls P f args w' fun e w2=>∃ c,e = .panicked c/\Q (.panic c) a w2):wpOpIn (aA none) n P ops Q i K a w:=by
 unfold wpOpIn;simp only [hi];rw [hw,if_pos rfl];refine ⟨fun f _=>fS none f,?_⟩;rw [Oper.semAt_eq _ _ _ fun c e=>absurd e (hd c),hr];refine ⟨fun hd=>(by rw [jg] at hd;cases hd),jJ (hK.mono ?_)⟩;rintro e w2 ⟨c,rfl,h⟩;exact h
theorem eU {st:St} {i j:Nat} {s:S} (h:i≠j):get (st.set j s) i=get st i:=by
 unfold get;rw [List.getD_eq_getElem?_getD,List.getD_eq_getElem?_getD,List.getElem?_set_ne (Ne.symm h)]
theorem z_ {M0:Base} {F:Nat->Prop} {M:ai} {st:St} {a:Act} {w:World} (hg:Good M0 F M st a w) {d:Nat} (hb:au (get st d)=false) (v:Value):Good M0 F M (st.set d .und) (a.put (some d) v) w:=by
 have:=hg.fin (dst:=some d) (s:=.und) (v:=v) (fun d' hd=>by cases hd;exact hb) rfl trivial;exact this
theorem zz {s:S} (h:au s=false):au (aR s)=false:=by rw [qr];exact h
def bp (id:Nat) (c:Code):Array Oper:=match ip id c with|some o=>o|none => #[]
theorem aB {ops:Array Oper} {L:List (Option Tmp×Op×Option (Nat×Bool))} (h:ops.toList.map a_=L) {i:Nat} {x:Option Tmp×Op×Option (Nat×Bool)} (hx:L[i]? = some x):∃ o,ops[i]? = some o/\o.dst=x.1/\o.op=x.2.1/\o.guard=x.2.2:=by
 rw [<- h,List.getElem?_map,Array.getElem?_toList] at hx;cases h:ops[i]? with
 | none=>rw [h] at hx;cases hx
 | some o=>rw [h] at hx;cases hx;exact ⟨o,rfl,rfl,rfl,rfl⟩
theorem gW {a:Act} {v:Value}:a.put none v=a:=rfl
theorem B' {cells:Array Value} (h:cells.size=3):∃ c0 c1 c2,cells = #[c0,c1,c2]:=by
 obtain ⟨l⟩:=cells
 match l,h with
 | [a,b,c],_=>exact ⟨a,b,c,rfl⟩
theorem vg {cells:Array Value} (h:cells.size=2):∃ c0 c1,cells = #[c0,c1]:=by
 obtain ⟨l⟩:=cells
 match l,h with
 | [a,b],_=>exact ⟨a,b,rfl⟩
theorem Ro (n i:Nat):get (List.replicate n S.und) i = .und:=by
 unfold get;rw [List.getD_eq_getElem?_getD,List.getElem?_replicate];split<;>rfl
theorem Tc (a:Array Obj) (x:Obj) (f:Obj->Obj):(a.push x).modify a.size f=a.push (f x):=by
 apply Array.ext
 . simp
 . intro i h1 h2;simp only [Array.getElem_modify,Array.getElem_push]
   by_cases h:a.size=i
   . subst h;simp
   . rw [if_neg h];have:i<a.size:=by simp at h2;omega
     simp [this]
theorem xI (w:World) (C D:Array Value) (E:TypeId):(w.alloc (.cells C E)).setRow w.heap.size D=w.alloc (.cells D E):=by
 unfold World.setRow World.alloc;dsimp only;rw [Tc]
theorem cj {W:World} {b:Nat} {cells:Array Value} {T:TypeId} (h:W.heap[b]? = some (.cells cells T (0,0))) {k:Nat} {u:Value} (hk:cells[k]? = some u):W.cell? ⟨b,k,none⟩=some u:=(cell_of_row W b k cells T (0,0) h).trans hk
theorem Rx {W:World} {o:Obj} {n:Nat} (h:n=W.heap.size):(W.alloc o).heap[n]? = some o:=h ▸ heap_alloc_new W o
open Go.RowKit (Below)
abbrev iV:Ty:=.prod (.int .i64) jC
abbrev gI:Ty:=.prod (.int .i64) (.prod (.list (.prod (.int .i64) (.prod (.list (.int .i64)) .unit))) .unit)
def jv:Array Oper:=bp 7 (av Tryz.f76)
theorem zx:jv.toList.map a_=[(some 36,.move (.tmp 5),none),(some 37,.indexAddr 25 (.tmp 36) (.const (.int .i64 0)),none),(some 38,.load 3 (.tmp 37),none),(some 39,.build 24 #[(0,.tmp 38)],none),(some 6,.alloc 24,none),(none,.store 24 (.tmp 6) (.tmp 39),none)]:=by kernel_rfl
def yM (st:St):Option St:=match get st 38 with
 | .d (.int .i64) n=>(match au (get st 39) || au (get st 6) || !(st.length==87) with
  | true=>none
  | false=>some ((st.set 39 .und).set 6 (.box [.d (.int .i64) n,.own (.prod (.int .i64) (.prod (.list (.int .i64)) .unit)) [] true])))
 | _=>none
def xi:Nat->Option (Nat×mt):=fun i=>match i with|3=>some (2,yM)|_=>none
section
variable {a : Act} {w : World} {o : Oper}
theorem Pb (ho:o.op = .build 24 #[(0,.tmp 38)]) {n:Int} (h:tm a 38 = .int .i64 n):(execOp a.eval o).run Tryz.prog w = .ok (.value (.agg #[.int .i64 n,.slice none 0 0])) w:=by
 have e2:a.eval (.tmp 38) = .int .i64 n:=h;simp only [execOp,ho,List.map_toArray,List.map_cons,List.map_nil,e2];simp [go_sem]
theorem O8 (ho:o.op = .alloc 24):(execOp a.eval o).run Tryz.prog w = .ok (.value (.pointer (some ⟨w.heap.size,0,none⟩))) (w.alloc (.cells #[.int .i64 0,.slice none 0 0] 24)):=by
 simp only [execOp,ho];simp [go_sem]
theorem Pv (ho:o.op = .store 24 (.tmp 6) (.tmp 39)) {n:Int} (h1:tm a 6 = .pointer (some ⟨w.heap.size,0,none⟩)) (h2:tm a 39 = .agg #[.int .i64 n,.slice none 0 0]) :
 (execOp a.eval o).run Tryz.prog (w.alloc (.cells #[.int .i64 0,.slice none 0 0] 24)) = .ok .skip (w.alloc (.cells #[.int .i64 n,.slice none 0 0] 24)):=by
 have e1:a.eval (.tmp 6) = .pointer (some ⟨w.heap.size,0,none⟩):=h1;have e2:a.eval (.tmp 39) = .agg #[.int .i64 n,.slice none 0 0]:=h2;simp only [execOp,ho,e1,e2];simp [go_sem]
end
theorem Rt:xj Tryz.prog jv 3 2 yM:=by
 intro F M0 w0 m hI hpl Q rest st a w st' hc hg hK;unfold yM at hg;split at hg;rotate_left
 . cases hg
 rename_i n h38;split at hg
 . cases hg
 rename_i hnb;simp only [Bool.or_eq_false_iff] at hnb;obtain ⟨⟨n39,n6⟩,hlen⟩:=hnb;have hlen:st.length=87:=by simpa using hlen
 cases hg;obtain ⟨hfr,M,hg⟩:=hc;have t38:tm a 38 = .int .i64 n:=by
  have s:=hg.slot 38;rw [h38] at s;obtain ⟨cs,e,q⟩:=s;have q':cs=[.int .i64 n]:=q;subst q';exact e
 have hsz:a.tmps.size=87:=hg.size.trans hlen;have g39:=z_ hg (d:=39) n39 (.agg #[.int .i64 n,.slice none 0 0]);have hbx:au (get (st.set 39 .und) 6)=false:=by rw [eU (by omega)];exact n6
 obtain ⟨o3,i3,d3,p3,q3⟩:=aB zx (i:=3) rfl;obtain ⟨o4,i4,d4,p4,q4⟩:=aB zx (i:=4) rfl;obtain ⟨o5,i5,d5,p5,q5⟩:=aB zx (i:=5) rfl;obtain ⟨M2,hgb⟩:=g39.put_box (o:=o4) (E:=24) (fun d hd=>by rw [d4] at hd;cases hd;exact hbx) (cs:=[.d (.int .i64) n,.own iV [] true]) (cells := #[.int .i64 n,.slice none 0 0])
  (fun k t xs hh h=>by match k,h with|0,h=>cases h|1,h=>cases h|_+2,h=>cases h)
  (fun k t xs h=>by match k,h with|0,h=>cases h|1,h=>cases h|_+2,h=>cases h)
  (fun k t xs hh v h1 h2=>by match k,h1,h2 with|0,h1,_=>cases h1|1,_,h2=>cases h2;rfl|_+2,h1,_=>cases h1) rfl
  (fun k c u h1 h2=>by
   match k,h1,h2 with
   | 0,h1,h2=>cases h1;cases h2;exact rfl
   | 1,h1,h2=>cases h1;cases h2;exact ⟨af.list_nil _,.inl ⟨rfl,rfl⟩⟩
   | _+2,h1,_=>cases h1)
 rw [d4] at hgb;show wpOpsIn (aA none) m Tryz.prog jv Q (3 :: 4 :: 5 :: rest) a w;rw [wpOpsIn_cons];refine aV i3 (aC q3) (fun c h=>by rw [p3] at h;cases h) (Pb p3 t38) ?_;rw [d3,wpOpsIn_cons];refine aV i4 (aC q4) (fun c h=>by rw [p4] at h;cases h) (O8 p4) ?_;rw [d4,wpOpsIn_cons];refine iG i5 (aC q5) (fun c h=>by rw [p5] at h;cases h) (Pv p5 (n:=n) (by rw [ay (by simp only [aG];omega)]) (by rw [aj (by omega),ay (by omega)])) ?_;rw [d5];exact hK _ _ ⟨hfr.alloc hg.room _,M2,hgb⟩
def vZ (Φ:Nat->List Spec) (hints:List (Nat×List Nat)) {ρ:Type} (k:X->St->Out ρ) (st:St):Out ρ :=
 jl Tryz.prog Φ xi (fun _ p=>.pan p) jv (fun s=>k .normal s) jv.toList 0 0 (frz Tryz.prog hints 7 (st.map aR))
theorem OI {Φ:Nat->List Spec} (hΦ:∀ g sp,sp∈Φ g->am Tryz.prog sp) (hints:List (Nat×List Nat)):rX Tryz.prog (.region 7 jv false) (fun {ρ} k st=>vZ Φ hints k st):=by
 intro ρ fin hf F M0 w0 n hI hpl k Q hp hQ st a w hc h;refine Ru hΦ hints (H:=xi) (id:=7) (ops:=jv) (fun i y h=>?_) hf F M0 w0 n hI hpl k Q hp hQ st a w hc h;unfold xi at h;split at h
 . cases h;exact Rt
 . cases h
end Go.V
end
