/- A part of the proof of a law of the copies. -/
import Derived.Test.YtmkbnifehdhbbabGreatDoorDG
set_option linter.all false
noncomputable section
namespace Go.V
open Go.Proofs
open Go.RowKit (Below)
def intC (x:Int):C:=.d (.int .i64) x
def intsC:List C->Option (List Int)
 | []=>some []
 | c :: cs=>(match c with
  | .d (.int .i64) x=>(match intsC cs with|some xs=>some (x :: xs)|none=>none)
  | _=>none)
theorem intsC_at:∀ {cs:List C} {xs:List Int},intsC cs=some xs->cs=xs.map intC
 | [],xs,h=>by cases h;rfl
 | c :: cs,xs,h=>by
  unfold intsC at h;split at h
  . rename_i x;split at h
    . rename_i ys e;cases h;rw [intsC_at e];rfl
    . cases h
  . cases h
def incC (i:Int):Nat->List Int->List C
 | _,[]=>[]
 | k,x :: xs=>C.d (.int .i64) (bif i==(k:Int) then IntKind.i64.wrap (x+1) else x) :: incC i (k+1) xs
def incL (i:Int):Nat->List Int->List Int
 | _,[]=>[]
 | k,x :: xs=>(bif i==(k:Int) then IntKind.i64.wrap (x+1) else x) :: incL i (k+1) xs
theorem incC_eq (i:Int):∀ (k:Nat) (xs:List Int),incC i k xs=(incL i k xs).map intC
 | _,[]=>rfl
 | k,x :: xs=>by unfold incC incL;rw [incC_eq i (k+1) xs];rfl
theorem incL_len (i:Int):∀ (k:Nat) (xs:List Int),(incL i k xs).length=xs.length
 | _,[]=>rfl
 | k,x :: xs=>by unfold incL;rw [List.length_cons,incL_len i (k+1) xs,List.length_cons]
theorem incL_at (i:Int):∀ (k j:Nat) (xs:List Int) (h:j<xs.length),(incL i k xs)[j]? = some (if i=((k+j:Nat):Int) then IntKind.i64.wrap (xs[j]+1) else xs[j])
 | _,_,[],h=>by simp at h
 | k,0,x :: xs,h=>by
  unfold incL;simp only [List.getElem?_cons_zero,Nat.add_zero,List.getElem_cons_zero]
  congr 1
  by_cases e:i=(k:Int)
  . rw [if_pos e,show (i==(k:Int))=true by simp [e],cond_true]
  . rw [if_neg e,show (i==(k:Int))=false by simp [e],cond_false]
 | k,j+1,x :: xs,h=>by
  unfold incL;rw [List.getElem?_cons_succ,incL_at i (k+1) j xs (by simpa using h),List.getElem_cons_succ,show k+1+j=k+(j+1) by omega]
def incG (H:Hole) (s:H.σ) (st:St):Bool×Outs H :=
 match get st 12 with
 | .box cs=>(match intsC cs with
  | some xs=>(match (get st 53).as (.int .i64) with
   | some i=>(((st.length==86 && noBoxes [54,55,56,57] st) && xs.length==10) && inb (show Int from i) xs.length,.some [(s,(undAll [54,55,56,57] st).set 12 (.box (incC (show Int from i) 0 xs)))])
   | none=>(false,.some []))
  | none=>(false,.some []))
 | _=>(false,.some [])
def r41_16:Array Oper:=regAt 16 (bodyOf Tryz.f50)
theorem info41_16:r41_16.toList.map opInfo=[(some 50,.move (.tmp 14),none),(some 51,.move (.tmp 8),none),(some 52,.indexAddr 25 (.tmp 50) (.tmp 51),none),(some 53,.load 3 (.tmp 52),none),(some 54,.indexAddr 122 (.tmp 12) (.tmp 53),none),(some 55,.load 3 (.tmp 54),none),
 (some 56,.binOp .add 3 (.tmp 55) (.const (.int .i64 1)) 3,none),(some 57,.indexAddr 122 (.tmp 12) (.tmp 53),none),(none,.store 3 (.tmp 57) (.tmp 56),none)]:=by kernel_rfl
theorem und106:Tryz.prog.underlying 122=some (.array 10 3):=by kernel_rfl
theorem ex_ia106 {a:Act} {w:World} {o:Oper} {p q:Nat} (ho:o.op = .indexAddr 122 (.tmp p) (.tmp q)) {b:Nat} {i:Int} (h0:tm a p = .pointer (some ⟨b,0,none⟩)) (h1:tm a q = .int .i64 i) (hi0:0<=i) (hi:i<10) :
 (execOp a.eval o).run Tryz.prog w = .ok (.value (.pointer (some ⟨b,i.toNat,none⟩))) w:=by
 have e0:a.eval (.tmp p) = .pointer (some ⟨b,0,none⟩):=h0;have e1:a.eval (.tmp q) = .int .i64 i:=h1;have hE:tyOf Tryz.prog 9 3=some (.int .i64):=by kernel_rfl
 simp [execOp,ho,e0,e1,Instr.indexAt,asIntOf,run_underlying und106,run_sizeOf hE,add_lit,hi0,hi,Instr.sureAddr,Ty.size]
theorem ex_add1 {a:Act} {w:World} {o:Oper} {p:Nat} (ho:o.op = .binOp .add 3 (.tmp p) (.const (.int .i64 1)) 3) {x:Int} (h:tm a p = .int .i64 x):(execOp a.eval o).run Tryz.prog w = .ok (.value (.int .i64 (IntKind.i64.wrap (x+1)))) w:=by
 have e1:a.eval (.tmp p) = .int .i64 x:=h;have e2:a.eval (.const (.int .i64 1)) = .int .i64 1:=rfl;have e3:(binOp .add 3 (.int .i64 x) (.int .i64 1)).run Tryz.prog w = .ok (.int .i64 (IntKind.i64.wrap (x+1))) w:=by simp [binOp,Op.intArith]
 simp [execOp,ho,e1,e2,eqG_int,e3]
theorem inc_ok {H:Hole}:HandQ Tryz.prog H r41_16 4 4 (incG H):=by
 intro F M0 w0 n hI hpl Q rest s st act w hc h1 hK;unfold incG at h1;split at h1;rotate_left
 . cases h1
 rename_i cs e12;split at h1;rotate_left
 . cases h1
 rename_i xs exs;split at h1;rotate_left
 . cases h1
 rename_i iD e53;obtain ⟨i,hi'⟩:∃ z:Int,z=iD:=⟨_,rfl⟩
 subst hi';simp only [Bool.and_eq_true,beq_iff_eq] at h1;obtain ⟨⟨⟨hlen,hnb⟩,hx10⟩,hin⟩:=h1;obtain ⟨hi0,hi1⟩:=inb_iff.1 hin;have hmem:(incG H s st).2.mem (s,(undAll [54,55,56,57] st).set 12 (.box (incC i 0 xs))):=by
  unfold incG;rw [e12];dsimp only;rw [exs];dsimp only;rw [e53];exact .head _
 have hcs:=intsC_at exs;have nb:∀ d∈[54,55,56,57],isBox (get st d)=false:=fun d hd=>by
  have:=List.all_eq_true.1 hnb d hd
  simpa using this
 obtain ⟨N0,hpn,⟨hfr,M,hg⟩,hback⟩:=hc.lift;have hsz:act.tmps.size=86:=hg.size.trans hlen;have s12:=hg.slot 12;rw [e12] at s12;obtain ⟨b,T,cells,t12,hb,hcl,hok⟩:=box_cells s12;have hcl:cells.size=xs.length:=by rw [hcl,hcs,List.length_map]
 have hrb:RepV M w (.int .i64) (tm act 53) i:=as_ok (hg.slot 53) e53;have t53:tm act 53 = .int .i64 i:=by obtain ⟨cs,e1,e2⟩:=hrb;have e2:cs=[.int .i64 i]:=e2;rw [e1,e2];rfl
 have hcell:∀ (k:Nat) (hk:k<xs.length),cells[k]? = some (.int .i64 xs[k]):=fun k hk=>by
  have hlt:k<cells.size:=by omega
  have h2:=hok k (intC xs[k]) cells[k] (by rw [hcs,List.getElem?_map,List.getElem?_eq_getElem hk];rfl) (Array.getElem?_eq_getElem hlt);rw [Array.getElem?_eq_getElem hlt,cell_int h2]
 have hil:i.toNat<xs.length:=by omega
 obtain ⟨o4,i4,d4,p4,q4⟩:=infoAt info41_16 (i:=4) rfl;obtain ⟨o5,i5,d5,p5,q5⟩:=infoAt info41_16 (i:=5) rfl;obtain ⟨o6,i6,d6,p6,q6⟩:=infoAt info41_16 (i:=6) rfl;obtain ⟨o7,i7,d7,p7,q7⟩:=infoAt info41_16 (i:=7) rfl;obtain ⟨o8,i8,d8,p8,q8⟩:=infoAt info41_16 (i:=8) rfl
 simp only at d4 p4 q4 d5 p5 q5 d6 p6 q6 d7 p7 q7 d8 p8 q8;show wpOpsIn (fen none) n Tryz.prog r41_16 Q (4 :: 5 :: 6 :: 7 :: 8 :: rest) act w;rw [wpOpsIn_cons];refine opn_value i4 (wanted_none q4) (fun c h=>by rw [p4] at h;cases h) (ex_ia106 p4 t12 t53 hi0 (by omega)) ?_
 rw [d4,wpOpsIn_cons];obtain ⟨a0,e0⟩:∃ a0,a0=act.put (some 54) (.pointer (some ⟨b,i.toNat,none⟩)):=⟨_,rfl⟩
 have z0:a0.tmps.size=86:=by rw [e0,size_put];exact hsz
 have r0:tm a0 54 = .pointer (some ⟨b,i.toNat,none⟩):=by rw [e0];exact tm_put_same (by omega)
 have f0:tm a0 12 = .pointer (some ⟨b,0,none⟩):=by rw [e0,tm_put_other (by omega)];exact t12
 have g0:tm a0 53 = .int .i64 i:=by rw [e0,tm_put_other (by omega)];exact t53
 rw [<- e0];refine opn_value i5 (wanted_none q5) (fun c h=>by rw [p5] at h;cases h) (ex_loadAt (T:=3) (t:=.int .i64) (by kernel_rfl) rfl rfl p5 r0 hb (hcell i.toNat hil)) ?_;rw [d5,wpOpsIn_cons];obtain ⟨a1,e1⟩:∃ a1,a1=a0.put (some 55) (.int .i64 xs[i.toNat]):=⟨_,rfl⟩
 have z1:a1.tmps.size=86:=by rw [e1,size_put];exact z0
 have r1:tm a1 55 = .int .i64 xs[i.toNat]:=by rw [e1];exact tm_put_same (by omega)
 have f1:tm a1 12 = .pointer (some ⟨b,0,none⟩):=by rw [e1,tm_put_other (by omega)];exact f0
 have g1:tm a1 53 = .int .i64 i:=by rw [e1,tm_put_other (by omega)];exact g0
 rw [<- e1];refine opn_value i6 (wanted_none q6) (fun c h=>by rw [p6] at h;cases h) (ex_add1 p6 r1) ?_;rw [d6,wpOpsIn_cons];obtain ⟨v,hv⟩:∃ v:Int,v=IntKind.i64.wrap (xs[i.toNat]+1):=⟨_,rfl⟩
 rw [<- hv];obtain ⟨a2,e2⟩:∃ a2,a2=a1.put (some 56) (.int .i64 v):=⟨_,rfl⟩
 have z2:a2.tmps.size=86:=by rw [e2,size_put];exact z1
 have r2:tm a2 56 = .int .i64 v:=by rw [e2];exact tm_put_same (by omega)
 have f2:tm a2 12 = .pointer (some ⟨b,0,none⟩):=by rw [e2,tm_put_other (by omega)];exact f1
 have g2:tm a2 53 = .int .i64 i:=by rw [e2,tm_put_other (by omega)];exact g1
 rw [<- e2];refine opn_value i7 (wanted_none q7) (fun c h=>by rw [p7] at h;cases h) (ex_ia106 p7 f2 g2 hi0 (by omega)) ?_;rw [d7,wpOpsIn_cons];obtain ⟨a3,e3⟩:∃ a3,a3=a2.put (some 57) (.pointer (some ⟨b,i.toNat,none⟩)):=⟨_,rfl⟩
 have z3:a3.tmps.size=86:=by rw [e3,size_put];exact z2
 have r3:tm a3 57 = .pointer (some ⟨b,i.toNat,none⟩):=by rw [e3];exact tm_put_same (by omega)
 have f3:tm a3 56 = .int .i64 v:=by rw [e3,tm_put_other (by omega)];exact r2
 have k3:tm a3 12 = .pointer (some ⟨b,0,none⟩):=by rw [e3,tm_put_other (by omega)];exact f2
 rw [<- e3];refine opn_skipped i8 (wanted_none q8) (fun c h=>by rw [p8] at h;cases h) (ex_storeAt (T:=3) (t:=.int .i64) (by kernel_rfl) rfl p8 r3 f3 rfl rfl hb (by omega)) ?_;rw [d8,put_none];have hc2:ConcH H F M0 w0 s (undAll [54,55,56,57] st) a3 w:=by
  obtain ⟨q1,M1,hG1⟩:=hc;have:=undAll_ok hG1 [(54,.pointer (some ⟨b,i.toNat,none⟩)),(55,.int .i64 xs[i.toNat]),(56,.int .i64 v),(57,.pointer (some ⟨b,i.toNat,none⟩))] _ act hG1 (List.all_eq_true.2 fun d hd=>by have:=nb d (by simp at hd ⊢;omega);simp [this])
  refine ⟨q1,M1,?_⟩;rw [e3,e2,e1,e0];exact this
 obtain ⟨N1,hpn1,⟨hfr1,M1,hg1⟩,hback1⟩:=hc2.lift;have hget:get (undAll [54,55,56,57] st) 12 = .box cs:=by rw [undAll_get [54,55,56,57] st (by simp)];exact e12
 have hG2:=hg1.setbox (cs':=incC i 0 xs) (row:=cells.setIfInBounds i.toNat (.int .i64 v)) hget k3 hb (by rw [Array.size_setIfInBounds,hcl,incC_eq,List.length_map,incL_len]) (fun k c u h1 h2=>?_) (fun k u ys h=>?_) (fun k u ys h=>?_) (fun k c v g h hc=>?_) (fun k k' c v g c1 v' h hc=>?_)
 . have hnb:¬ (F b\/H.hb s w b):=hg1.new 12 none b ⟨by rw [hget];rfl,by rw [k3];rfl⟩;exact hK _ hmem _ _ (hback1 _ _ _ ⟨hfr1.but hnb rfl rfl rfl (by rw [setRow_size];exact Nat.le_refl _) fun k hk=>setRow_other hk,M1,hG2⟩)
 . rw [incC_eq,List.getElem?_map] at h1;cases hx:(incL i 0 xs)[k]? with
   | none=>rw [hx] at h1;cases h1
   | some y =>
    rw [hx] at h1;cases h1;have hk:k<xs.length:=by have:=(List.getElem?_eq_some_iff.1 hx).1;rw [incL_len] at this;exact this
    rw [incL_at i 0 k xs hk] at hx;cases hx;rw [Nat.zero_add];rw [Array.getElem?_setIfInBounds] at h2
    by_cases hki:i.toNat=k
    . subst hki;rw [if_pos rfl,if_pos (by omega)] at h2;cases h2;rw [if_pos (by omega)];show [Value.int .i64 v]=_;rw [hv]
    . rw [if_neg hki,hcell k hk] at h2;cases h2;rw [if_neg (by omega)];rfl
 . rw [incC_eq,List.getElem?_map] at h;cases hx:(incL i 0 xs)[k]? with
   | none=>rw [hx] at h;cases h
   | some y=>rw [hx] at h;cases h
 . rw [incC_eq,List.getElem?_map] at h;cases hx:(incL i 0 xs)[k]? with
   | none=>rw [hx] at h;cases h
   | some y=>rw [hx] at h;cases h
 . rw [incC_eq,List.getElem?_map] at h;cases hx:(incL i 0 xs)[k]? with
   | none=>rw [hx] at h;cases h
   | some y=>rw [hx] at h;cases h;cases hc
 . rw [incC_eq,List.getElem?_map] at h;cases hx:(incL i 0 xs)[k]? with
   | none=>rw [hx] at h;cases h
   | some y=>rw [hx] at h;cases h;cases hc
end Go.V
namespace Go.V
open Go.Proofs
def specs41:List Spec:=[sp55,sp70,sp77,sp65,sp78a]
def hints41:List (Nat×List Nat):=[(6,[1,6,7,23,24,25]),(9,[1,6,7,8,23,24,25,31,32,33]),(14,[1,6,7,8,10,12,23,24,25,31,32,33,44,45,46]),(4000018,[12,122])]
def specsQ41 (s:Unit):List Spec:=[sp55,sp70,sp77,sp65,sp78a]
def D41_16:Nat->Option (Nat×(Unit->St->Bool×Outs H0)):=fun i=>match i with|4=>some (4,incG H0)|_=>none
theorem D41_16_ok:∀ i y,D41_16 i=some y->HandQ Tryz.prog H0 r41_16 i y.1 y.2:=by
 intro i y h
 unfold D41_16 at h
 split at h
 . cases h;exact inc_ok
 . cases h
def T41:List (List Nat×HdH H0):=[([1,1,1,1,0,1,0,0,1,1,0,0,1,1,0,0,1,1,0,0,1,1,1,0,1,0,0,1,1,0,0,1],⟨fun {ρ} k s st=>regQ Tryz.prog H0 (fun s=>phi (specsQ41 s)) hints41 D41_16 16 r41_16 k s st⟩)]
theorem allQ41 (h:∀ s,∀ sp∈specsQ41 s,CallH Tryz.prog H0 s sp):AllQ Tryz.prog H0 (bodyOf Tryz.f50) (T41):=(allQ_cons (c' := .region 16 r41_16 false) (by kernel_rfl) (regQ_ok (fun s g sp hs=>h s sp (List.mem_filter.1 hs).1) hints41 D41_16_ok) allQ_nil)
def L41_2 (N:Nat) (n_L41_0:Nat) (n_L41_1:Nat) (n_L41_2:Nat) (t25_12:Int) (t33_20:Int) (x:lt1) (x_18:(List (List (List Int)))) (t_21:Int) (t_22:(List (Int×lt0))) (x_23:Int) (x_24:(List (Int×lt0))) (x_25:(List (List Int))) (x_26:(List (List (List Int)))) (all_27:(List (Int×(Int×(Int×Unit))))) (times_28:Int) (times_29:Int) (times_30:Int) (times_31:Int) (times_32:Int) (times_33:Int) (times_34:Int) (times_35:Int) (times_36:Int) (times_37:Int) (t46_38:Int):Out (Unit×(Int×(Int×(Int×(Int×Unit))))) :=
 vloopQ Tryz.prog H0 (phi specs41) hints41 N (T41) Tryz.f50 true false ty13 [1,1,1,1,0,1,0,n_L41_0,1,1,0,0,1,1,0,n_L41_1,1,1,0,0,1,1,1,0,1,0] n_L41_2 (()) [U,.box [.d (.int .i64) t_21,.d ty0 t_22],U,U,U,U,.box [.d (.int .i64) x_23,.d ty0 x_24,.d ty1 x_25,.d ty11 x_26],.own ty10 all_27 false,.d (.int .i64) t25_12,U,.d (.int .i64) t33_20,U,.box [.d (.int .i64) times_28,.d (.int .i64) times_29,.d (.int .i64) times_30,.d (.int .i64) times_31,.d (.int .i64) times_32,.d (.int .i64) times_33,.d (.int .i64) times_34,.d (.int .i64) times_35,.d (.int .i64) times_36,.d (.int .i64) times_37],U,U,U,U,U,U,U,U,U,U,.d ty0 x.1.2.1,.d (.int .i64) (lenI x.1.2.1),.d (.int .i64) t25_12,U,U,U,U,U,.d (.list (.int .i64)) ((List.getD x.1.2.1 t25_12.toNat ((0:Int),(([]:List Int),())))).2.1,.d (.int .i64) (lenI ((List.getD x.1.2.1 t25_12.toNat ((0:Int),(([]:List Int),())))).2.1),.d (.int .i64) t33_20,U,U,U,U,U,U,U,U,U,U,.d ty1 (List.getD x_18 t33_20.toNat ([]:List (List Int))),.d (.int .i64) (lenI (List.getD x_18 t33_20.toNat ([]:List (List Int)))),.d (.int .i64) t46_38,U,U,U,U,U,U,U,U,U,U,U,U,U,U,U,U,U,U,U,U,U,U,U,U,U,U,U,U,U,U,U,U,U,U,U,U,U,U,U]
def L41_1 (N:Nat) (n_L41_0:Nat) (n_L41_1:Nat) (t25_12:Int) (x:lt1) (t_13:Int) (t_14:(List (Int×lt0))) (x_15:Int) (x_16:(List (Int×lt0))) (x_17:(List (List Int))) (x_18:(List (List (List Int)))) (all_19:(List (Int×(Int×(Int×Unit))))) (t33_20:Int):Out (Unit×(Int×(Int×(Int×(Int×Unit))))) :=
 vloopQ Tryz.prog H0 (phi specs41) hints41 N (T41) Tryz.f50 true false ty13 [1,1,1,1,0,1,0,n_L41_0,1,1,0,0,1,1,0] n_L41_1 (()) [U,.box [.d (.int .i64) t_13,.d ty0 t_14],U,U,U,U,.box [.d (.int .i64) x_15,.d ty0 x_16,.d ty1 x_17,.d ty11 x_18],.own ty10 all_19 false,.d (.int .i64) t25_12,U,U,U,U,U,U,U,U,U,U,U,U,U,U,.d ty0 x.1.2.1,.d (.int .i64) (lenI x.1.2.1),.d (.int .i64) t25_12,U,U,U,U,U,.d (.list (.int .i64)) ((List.getD x.1.2.1 t25_12.toNat ((0:Int),(([]:List Int),())))).2.1,.d (.int .i64) (lenI ((List.getD x.1.2.1 t25_12.toNat ((0:Int),(([]:List Int),())))).2.1),.d (.int .i64) t33_20,U,U,U,U,U,U,U,U,U,U,U,U,U,U,U,U,U,U,U,U,U,U,U,U,U,U,U,U,U,U,U,U,U,U,U,U,U,U,U,U,U,U,U,U,U,U,U,U,U,U,U,U]
def L41_0 (N:Nat) (n_L41_0:Nat) (x:lt1) (t_5:Int) (t_6:(List (Int×lt0))) (x_7:Int) (x_8:(List (Int×lt0))) (x_9:(List (List Int))) (x_10:(List (List (List Int)))) (all_11:(List (Int×(Int×(Int×Unit))))) (t25_12:Int):Out (Unit×(Int×(Int×(Int×(Int×Unit))))) :=
 vloopQ Tryz.prog H0 (phi specs41) hints41 N (T41) Tryz.f50 true false ty13 [1,1,1,1,0,1,0] n_L41_0 (()) [U,.box [.d (.int .i64) t_5,.d ty0 t_6],U,U,U,U,.box [.d (.int .i64) x_7,.d ty0 x_8,.d ty1 x_9,.d ty11 x_10],.own ty10 all_11 false,U,U,U,U,U,U,U,U,U,U,U,U,U,U,U,.d ty0 x.1.2.1,.d (.int .i64) (lenI x.1.2.1),.d (.int .i64) t25_12,U,U,U,U,U,U,U,U,U,U,U,U,U,U,U,U,U,U,U,U,U,U,U,U,U,U,U,U,U,U,U,U,U,U,U,U,U,U,U,U,U,U,U,U,U,U,U,U,U,U,U,U,U,U,U,U,U,U,U,U]
theorem L41_2_succ (N:Nat) (n_L41_0:Nat) (n_L41_1:Nat) (n_L41_2:Nat) (t25_12:Int) (t33_20:Int) (x:lt1) (x_18:(List (List (List Int)))) (t_21:Int) (t_22:(List (Int×lt0))) (x_23:Int) (x_24:(List (Int×lt0))) (x_25:(List (List Int))) (x_26:(List (List (List Int)))) (all_27:(List (Int×(Int×(Int×Unit))))) (times_28:Int) (times_29:Int) (times_30:Int) (times_31:Int) (times_32:Int) (times_33:Int) (times_34:Int) (times_35:Int) (times_36:Int) (times_37:Int) (t46_38:Int):L41_2 N n_L41_0 n_L41_1 (n_L41_2+1) t25_12 t33_20 x x_18 t_21 t_22 x_23 x_24 x_25 x_26 all_27 times_28 times_29 times_30 times_31 times_32 times_33 times_34 times_35 times_36 times_37 t46_38 =
 (match (decide (t46_38<(lenI (List.getD x_18 t33_20.toNat [])))) with|true=>bif (inb t46_38 (List.getD x_18 t33_20.toNat []).length) then bif (inb t25_12 (List.getD (List.getD x_18 t33_20.toNat []) t46_38.toNat []).length) then bif (inb (List.getD (List.getD (List.getD x_18 t33_20.toNat []) t46_38.toNat []) t25_12.toNat 0) 10) then L41_2 N n_L41_0 n_L41_1 n_L41_2 t25_12 t33_20 x x_18 t_21 t_22 x_23 x_24 x_25 x_26 all_27 ((bif (List.getD (List.getD (List.getD x_18 t33_20.toNat []) t46_38.toNat []) t25_12.toNat 0)==0 then IntKind.i64.wrap (times_28+1) else times_28)) ((bif (List.getD (List.getD (List.getD x_18 t33_20.toNat []) t46_38.toNat []) t25_12.toNat 0)==1 then IntKind.i64.wrap (times_29+1) else times_29)) ((bif (List.getD (List.getD (List.getD x_18 t33_20.toNat []) t46_38.toNat []) t25_12.toNat 0)==2 then IntKind.i64.wrap (times_30+1) else times_30)) ((bif (List.getD (List.getD (List.getD x_18 t33_20.toNat []) t46_38.toNat []) t25_12.toNat 0)==3 then IntKind.i64.wrap (times_31+1) else times_31)) ((bif (List.getD (List.getD (List.getD x_18 t33_20.toNat []) t46_38.toNat []) t25_12.toNat 0)==4 then IntKind.i64.wrap (times_32+1) else times_32)) ((bif (List.getD (List.getD (List.getD x_18 t33_20.toNat []) t46_38.toNat []) t25_12.toNat 0)==5 then IntKind.i64.wrap (times_33+1) else times_33)) ((bif (List.getD (List.getD (List.getD x_18 t33_20.toNat []) t46_38.toNat []) t25_12.toNat 0)==6 then IntKind.i64.wrap (times_34+1) else times_34)) ((bif (List.getD (List.getD (List.getD x_18 t33_20.toNat []) t46_38.toNat []) t25_12.toNat 0)==7 then IntKind.i64.wrap (times_35+1) else times_35)) ((bif (List.getD (List.getD (List.getD x_18 t33_20.toNat []) t46_38.toNat []) t25_12.toNat 0)==8 then IntKind.i64.wrap (times_36+1) else times_36)) ((bif (List.getD (List.getD (List.getD x_18 t33_20.toNat []) t46_38.toNat []) t25_12.toNat 0)==9 then IntKind.i64.wrap (times_37+1) else times_37)) (IntKind.i64.wrap (t46_38+1)) else .fail else .fail else .fail|false=>match f77 ((([times_28,times_29,times_30,times_31,times_32,times_33,times_34,times_35,times_36,times_37]:List Int)),()) with | .ret r_39=>(match f65 ((t_21,(t_22,())),(t33_20,())) with | .ret r_41=>bif (fits all_27 ([(t25_12,(t33_20,((IntKind.i64.wrap (r_39 * r_41)),())))]:List (Int×(Int×(Int×Unit))))) then L41_1 N n_L41_0 n_L41_1 t25_12 x t_21 t_22 x_23 x_24 x_25 x_26 (all_27++([(t25_12,(t33_20,((IntKind.i64.wrap (r_39 * r_41)),())))]:List (Int×(Int×(Int×Unit))))) (IntKind.i64.wrap (t33_20+1)) else .fail | .pan p=>.pan p | .fail=>.fail) | .pan p=>.pan p | .fail=>.fail:Out (Unit×(Int×(Int×(Int×(Int×Unit)))))):=by kernel_rfl
theorem L41_1_succ (N:Nat) (n_L41_0:Nat) (n_L41_1:Nat) (t25_12:Int) (x:lt1) (t_13:Int) (t_14:(List (Int×lt0))) (x_15:Int) (x_16:(List (Int×lt0))) (x_17:(List (List Int))) (x_18:(List (List (List Int)))) (all_19:(List (Int×(Int×(Int×Unit))))) (t33_20:Int):L41_1 N n_L41_0 (n_L41_1+1) t25_12 x t_13 t_14 x_15 x_16 x_17 x_18 all_19 t33_20 =
 (match (decide (t33_20<(lenI ((List.getD x.1.2.1 t25_12.toNat (0,([],())))).2.1))) with|true=>bif (inb t33_20 ((List.getD x.1.2.1 t25_12.toNat (0,([],())))).2.1.length) then match ((List.getD ((List.getD x.1.2.1 t25_12.toNat (0,([],())))).2.1 t33_20.toNat 0) != (-1)) with|true=>L41_1 N n_L41_0 n_L41_1 t25_12 x t_13 t_14 x_15 x_16 x_17 x_18 all_19 (IntKind.i64.wrap (t33_20+1))|false=>bif (inb t33_20 x_18.length) then L41_2 N n_L41_0 n_L41_1 N t25_12 t33_20 x x_18 t_13 t_14 x_15 x_16 x_17 x_18 all_19 0 0 0 0 0 0 0 0 0 0 0 else .fail else .fail|false=>L41_0 N n_L41_0 x t_13 t_14 x_15 x_16 x_17 x_18 all_19 (IntKind.i64.wrap (t25_12+1)):Out (Unit×(Int×(Int×(Int×(Int×Unit)))))):=by kernel_rfl
theorem L41_0_succ (N:Nat) (n_L41_0:Nat) (x:lt1) (t_5:Int) (t_6:(List (Int×lt0))) (x_7:Int) (x_8:(List (Int×lt0))) (x_9:(List (List Int))) (x_10:(List (List (List Int)))) (all_11:(List (Int×(Int×(Int×Unit))))) (t25_12:Int):L41_0 N  (n_L41_0+1) x t_5 t_6 x_7 x_8 x_9 x_10 all_11 t25_12 =
 (match (decide (t25_12<(lenI x.1.2.1))) with|true=>bif (inb t25_12 x.1.2.1.length) then L41_1 N n_L41_0 N t25_12 x t_5 t_6 x_7 x_8 x_9 x_10 all_11 0 else .fail|false=>match f78a (all_11,((Value.func (.func 91) #[] #[]),())) with | .ret r_43=>(match (!r_43.2.1) with|true=>.ret ((()),(0,(0,(0,(5,())))))|false=>.ret ((()),(r_43.1.1,(r_43.1.2.1,(r_43.1.2.2.1,(0,())))))) | .pan p=>.pan p | .fail=>.fail:Out (Unit×(Int×(Int×(Int×(Int×Unit)))))):=by kernel_rfl
def F41 (N:Nat) (x:lt1):Out (Unit×(Int×(Int×(Int×(Int×Unit))))):=match f55 (x.1,()) with | .ret r_1=>(match (!r_1) with|true=>.ret ((()),(0,(0,(0,(2,())))))|false=>match f70 (x.1,()) with | .ret r_3=>L41_0 N N x x.1.1 x.1.2.1 r_3.1.1.1 r_3.1.1.2.1 r_3.1.2.1 r_3.2.1 ([]:List (Int×(Int×(Int×Unit)))) 0 | .pan p=>.pan p | .fail=>.fail) | .pan p=>.pan p | .fail=>.fail
theorem e41 (N:Nat) (x:lt1):vfnQ Tryz.prog H0 (phi specs41) hints41 N (T41) Tryz.f50 true false ty2 ty13 (()) x=F41 N x:=by kernel_rfl
def f41 (x:lt1):Out (Int×(Int×(Int×(Int×Unit)))):=dropG (F41 fuel x)
def sp41:Spec:=⟨50,.call,ty2,ty13,true,false,f41⟩
theorem c41:Contract Tryz.prog sp41:=contract_drop (H:=H0) () (fun w b h=>h) (fun M w=>trivial) (l:=specs41) (fun sp hs=>(by simp only [specs41,List.mem_cons,List.not_mem_nil,or_false] at hs;rcases hs with rfl|rfl|rfl|rfl|rfl<;>first|exact c55|exact c70|exact c77|exact c65|exact c78a)) Tryz.func50 rfl (allQ41 fun s sp hs=>.inl (by simp only [specsQ41,List.mem_cons,List.not_mem_nil,or_false] at hs;rcases hs with rfl|rfl|rfl|rfl|rfl<;>first|exact c55|exact c70|exact c77|exact c65|exact c78a)) hints41 fuel (e41 fuel)
end Go.V
end
