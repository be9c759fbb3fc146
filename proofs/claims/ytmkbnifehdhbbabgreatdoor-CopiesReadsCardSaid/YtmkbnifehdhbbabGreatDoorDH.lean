/- Part. -/
import Derived.Test.YtmkbnifehdhbbabGreatDoorDG
set_option linter.all false
noncomputable section
namespace Go.V
open Go.Proofs
open Go.RowKit (Below)
def zy (x:Int):C:=.d (.int .i64) x
def tQ:List C->Option (List Int)
 | []=>some []
 | c :: cs=>(match c with
  | .d (.int .i64) x=>(match tQ cs with|some xs=>some (x :: xs)|none=>none)
  | _=>none)
theorem Gs:∀ {cs:List C} {xs:List Int},tQ cs=some xs->cs=xs.map zy
 | [],xs,h=>by cases h;rfl
 | c :: cs,xs,h=>by
  unfold tQ at h;split at h
  . rename_i x;split at h
    . rename_i ys e;cases h;rw [Gs e];rfl
    . cases h
  . cases h
def mY (i:Int):Nat->List Int->List C
 | _,[]=>[]
 | k,x :: xs=>C.d (.int .i64) (bif i==(k:Int) then IntKind.i64.wrap (x+1) else x) :: mY i (k+1) xs
def fU (i:Int):Nat->List Int->List Int
 | _,[]=>[]
 | k,x :: xs=>(bif i==(k:Int) then IntKind.i64.wrap (x+1) else x) :: fU i (k+1) xs
theorem lg (i:Int):∀ (k:Nat) (xs:List Int),mY i k xs=(fU i k xs).map zy
 | _,[]=>rfl
 | k,x :: xs=>by unfold mY fU;rw [lg i (k+1) xs];rfl
theorem zv (i:Int):∀ (k:Nat) (xs:List Int),(fU i k xs).length=xs.length
 | _,[]=>rfl
 | k,x :: xs=>by unfold fU;rw [List.length_cons,zv i (k+1) xs,List.length_cons]
theorem Gn (i:Int):∀ (k j:Nat) (xs:List Int) (h:j<xs.length),(fU i k xs)[j]? = some (if i=((k+j:Nat):Int) then IntKind.i64.wrap (xs[j]+1) else xs[j])
 | _,_,[],h=>by simp at h
 | k,0,x :: xs,h=>by
  unfold fU;simp only [List.getElem?_cons_zero,Nat.add_zero,List.getElem_cons_zero]
  congr 1
  by_cases e:i=(k:Int)
  . rw [if_pos e,show (i==(k:Int))=true by simp [e],cond_true]
  . rw [if_neg e,show (i==(k:Int))=false by simp [e],cond_false]
 | k,j+1,x :: xs,h=>by
  unfold fU;rw [List.getElem?_cons_succ,Gn i (k+1) j xs (by simpa using h),List.getElem_cons_succ,show k+1+j=k+(j+1) by omega]
def qj (H:Hole) (s:H.σ) (st:St):Bool×Outs H :=
 match get st 12 with
 | .box cs=>(match tQ cs with
  | some xs=>(match (get st 53).as (.int .i64) with
   | some i=>(((st.length==86 && bL [54,55,56,57] st) && xs.length==10) && ax (show Int from i) xs.length,.some [(s,(bE [54,55,56,57] st).set 12 (.box (mY (show Int from i) 0 xs)))])
   | none=>(false,.some []))
  | none=>(false,.some []))
 | _=>(false,.some [])
def nL:Array Oper:=bp 16 (av Tryz.f50)
theorem qk:nL.toList.map a_=[(some 50,.move (.tmp 14),none),(some 51,.move (.tmp 8),none),(some 52,.indexAddr 25 (.tmp 50) (.tmp 51),none),(some 53,.load 3 (.tmp 52),none),(some 54,.indexAddr 122 (.tmp 12) (.tmp 53),none),(some 55,.load 3 (.tmp 54),none),
 (some 56,.binOp .add 3 (.tmp 55) (.const (.int .i64 1)) 3,none),(some 57,.indexAddr 122 (.tmp 12) (.tmp 53),none),(none,.store 3 (.tmp 57) (.tmp 56),none)]:=by kernel_rfl
theorem Wh:Tryz.prog.underlying 122=some (.array 10 3):=by kernel_rfl
theorem EJ {a:Act} {w:World} {o:Oper} {p q:Nat} (ho:o.op = .indexAddr 122 (.tmp p) (.tmp q)) {b:Nat} {i:Int} (h0:tm a p = .pointer (some ⟨b,0,none⟩)) (h1:tm a q = .int .i64 i) (hi0:0<=i) (hi:i<10) :
 (execOp a.eval o).run Tryz.prog w = .ok (.value (.pointer (some ⟨b,i.toNat,none⟩))) w:=by
 have e0:a.eval (.tmp p) = .pointer (some ⟨b,0,none⟩):=h0;have e1:a.eval (.tmp q) = .int .i64 i:=h1;have hE:bj Tryz.prog 9 3=some (.int .i64):=by kernel_rfl
 simp [execOp,ho,e0,e1,Instr.indexAt,asIntOf,run_underlying Wh,fq hE,gh,hi0,hi,Instr.sureAddr,Ty.size]
theorem O7 {a:Act} {w:World} {o:Oper} {p:Nat} (ho:o.op = .binOp .add 3 (.tmp p) (.const (.int .i64 1)) 3) {x:Int} (h:tm a p = .int .i64 x):(execOp a.eval o).run Tryz.prog w = .ok (.value (.int .i64 (IntKind.i64.wrap (x+1)))) w:=by
 have e1:a.eval (.tmp p) = .int .i64 x:=h;have e2:a.eval (.const (.int .i64 1)) = .int .i64 1:=rfl;have e3:(binOp .add 3 (.int .i64 x) (.int .i64 1)).run Tryz.prog w = .ok (.int .i64 (IntKind.i64.wrap (x+1))) w:=by simp [binOp,Op.intArith]
 simp [execOp,ho,e1,e2,yr,e3]
theorem RE {H:Hole}:bw Tryz.prog H nL 4 4 (qj H):=by
 intro F M0 w0 n hI hpl Q rest s st act w hc h1 hK;unfold qj at h1;split at h1;rotate_left
 . cases h1
 rename_i cs e12;split at h1;rotate_left
 . cases h1
 rename_i xs exs;split at h1;rotate_left
 . cases h1
 rename_i iD tg;obtain ⟨i,hi'⟩:∃ z:Int,z=iD:=⟨_,rfl⟩
 subst hi';simp only [Bool.and_eq_true,beq_iff_eq] at h1;obtain ⟨⟨⟨hlen,hnb⟩,hx10⟩,hin⟩:=h1;obtain ⟨hi0,hi1⟩:=fT.1 hin;have hmem:(qj H s st).2.mem (s,(bE [54,55,56,57] st).set 12 (.box (mY i 0 xs))):=by
  unfold qj;rw [e12];dsimp only;rw [exs];dsimp only;rw [tg];exact .head _
 have hcs:=Gs exs;have nb:∀ d∈[54,55,56,57],au (get st d)=false:=fun d hd=>by
  have:=List.all_eq_true.1 hnb d hd
  simpa using this
 obtain ⟨N0,hpn,⟨hfr,M,hg⟩,hback⟩:=hc.lift;have hsz:act.tmps.size=86:=hg.size.trans hlen;have s12:=hg.slot 12;rw [e12] at s12;obtain ⟨b,T,cells,t12,hb,hcl,hok⟩:=ja s12;have hcl:cells.size=xs.length:=by rw [hcl,hcs,List.length_map]
 have hrb:aw M w (.int .i64) (tm act 53) i:=cO (hg.slot 53) tg;have t53:tm act 53 = .int .i64 i:=by obtain ⟨cs,e1,e2⟩:=hrb;have e2:cs=[.int .i64 i]:=e2;rw [e1,e2];rfl
 have hcell:∀ (k:Nat) (hk:k<xs.length),cells[k]? = some (.int .i64 xs[k]):=fun k hk=>by
  have hlt:k<cells.size:=by omega
  have h2:=hok k (zy xs[k]) cells[k] (by rw [hcs,List.getElem?_map,List.getElem?_eq_getElem hk];rfl) (Array.getElem?_eq_getElem hlt);rw [Array.getElem?_eq_getElem hlt,kI h2]
 have hil:i.toNat<xs.length:=by omega
 obtain ⟨o4,i4,d4,p4,q4⟩:=aB qk (i:=4) rfl;obtain ⟨o5,i5,d5,p5,q5⟩:=aB qk (i:=5) rfl;obtain ⟨o6,i6,d6,p6,q6⟩:=aB qk (i:=6) rfl;obtain ⟨o7,i7,d7,p7,q7⟩:=aB qk (i:=7) rfl;obtain ⟨o8,i8,d8,p8,q8⟩:=aB qk (i:=8) rfl;simp only at d4 p4 q4 d5 p5 q5 d6 p6 q6 d7 p7 q7 d8 p8 q8;show wpOpsIn (aA none) n Tryz.prog nL Q (4 :: 5 :: 6 :: 7 :: 8 :: rest) act w;rw [wpOpsIn_cons];refine aV i4 (aC q4) (fun c h=>by rw [p4] at h;cases h) (EJ p4 t12 t53 hi0 (by omega)) ?_;rw [d4,wpOpsIn_cons];obtain ⟨a0,e0⟩:∃ a0,a0=act.put (some 54) (.pointer (some ⟨b,i.toNat,none⟩)):=⟨_,rfl⟩
 have z0:a0.tmps.size=86:=by rw [e0,aG];exact hsz
 have r0:tm a0 54 = .pointer (some ⟨b,i.toNat,none⟩):=by rw [e0];exact ay (by omega)
 have f0:tm a0 12 = .pointer (some ⟨b,0,none⟩):=by rw [e0,aj (by omega)];exact t12
 have g0:tm a0 53 = .int .i64 i:=by rw [e0,aj (by omega)];exact t53
 rw [<- e0];refine aV i5 (aC q5) (fun c h=>by rw [p5] at h;cases h) (jd (T:=3) (t:=.int .i64) (by kernel_rfl) rfl rfl p5 r0 hb (hcell i.toNat hil)) ?_;rw [d5,wpOpsIn_cons];obtain ⟨a1,e1⟩:∃ a1,a1=a0.put (some 55) (.int .i64 xs[i.toNat]):=⟨_,rfl⟩
 have z1:a1.tmps.size=86:=by rw [e1,aG];exact z0
 have r1:tm a1 55 = .int .i64 xs[i.toNat]:=by rw [e1];exact ay (by omega)
 have f1:tm a1 12 = .pointer (some ⟨b,0,none⟩):=by rw [e1,aj (by omega)];exact f0
 have g1:tm a1 53 = .int .i64 i:=by rw [e1,aj (by omega)];exact g0
 rw [<- e1];refine aV i6 (aC q6) (fun c h=>by rw [p6] at h;cases h) (O7 p6 r1) ?_;rw [d6,wpOpsIn_cons];obtain ⟨v,hv⟩:∃ v:Int,v=IntKind.i64.wrap (xs[i.toNat]+1):=⟨_,rfl⟩
 rw [<- hv];obtain ⟨a2,e2⟩:∃ a2,a2=a1.put (some 56) (.int .i64 v):=⟨_,rfl⟩
 have z2:a2.tmps.size=86:=by rw [e2,aG];exact z1
 have r2:tm a2 56 = .int .i64 v:=by rw [e2];exact ay (by omega)
 have f2:tm a2 12 = .pointer (some ⟨b,0,none⟩):=by rw [e2,aj (by omega)];exact f1
 have g2:tm a2 53 = .int .i64 i:=by rw [e2,aj (by omega)];exact g1
 rw [<- e2];refine aV i7 (aC q7) (fun c h=>by rw [p7] at h;cases h) (EJ p7 f2 g2 hi0 (by omega)) ?_;rw [d7,wpOpsIn_cons];obtain ⟨a3,e3⟩:∃ a3,a3=a2.put (some 57) (.pointer (some ⟨b,i.toNat,none⟩)):=⟨_,rfl⟩
 have z3:a3.tmps.size=86:=by rw [e3,aG];exact z2
 have r3:tm a3 57 = .pointer (some ⟨b,i.toNat,none⟩):=by rw [e3];exact ay (by omega)
 have f3:tm a3 56 = .int .i64 v:=by rw [e3,aj (by omega)];exact r2
 have k3:tm a3 12 = .pointer (some ⟨b,0,none⟩):=by rw [e3,aj (by omega)];exact f2
 rw [<- e3];refine iG i8 (aC q8) (fun c h=>by rw [p8] at h;cases h) (tn (T:=3) (t:=.int .i64) (by kernel_rfl) rfl p8 r3 f3 rfl rfl hb (by omega)) ?_;rw [d8,gW];have hc2:bH H F M0 w0 s (bE [54,55,56,57] st) a3 w:=by
  obtain ⟨q1,M1,hG1⟩:=hc;have:=gc hG1 [(54,.pointer (some ⟨b,i.toNat,none⟩)),(55,.int .i64 xs[i.toNat]),(56,.int .i64 v),(57,.pointer (some ⟨b,i.toNat,none⟩))] _ act hG1 (List.all_eq_true.2 fun d hd=>by have:=nb d (by simp at hd ⊢;omega);simp [this]);refine ⟨q1,M1,?_⟩;rw [e3,e2,e1,e0];exact this
 obtain ⟨N1,hpn1,⟨hfr1,M1,hg1⟩,hback1⟩:=hc2.lift;have hget:get (bE [54,55,56,57] st) 12 = .box cs:=by rw [oA [54,55,56,57] st (by simp)];exact e12
 have hG2:=hg1.setbox (cs':=mY i 0 xs) (row:=cells.setIfInBounds i.toNat (.int .i64 v)) hget k3 hb (by rw [Array.size_setIfInBounds,hcl,lg,List.length_map,zv]) (fun k c u h1 h2=>?_) (fun k u ys h=>?_) (fun k u ys h=>?_) (fun k c v g h hc=>?_) (fun k k' c v g c1 v' h hc=>?_)
 . have hnb:¬ (F b\/H.hb s w b):=hg1.new 12 none b ⟨by rw [hget];rfl,by rw [k3];rfl⟩;exact hK _ hmem _ _ (hback1 _ _ _ ⟨hfr1.but hnb rfl rfl rfl (by rw [setRow_size];exact Nat.le_refl _) fun k hk=>setRow_other hk,M1,hG2⟩)
 . rw [lg,List.getElem?_map] at h1;cases hx:(fU i 0 xs)[k]? with
   | none=>rw [hx] at h1;cases h1
   | some y =>
    rw [hx] at h1;cases h1;have hk:k<xs.length:=by have:=(List.getElem?_eq_some_iff.1 hx).1;rw [zv] at this;exact this
    rw [Gn i 0 k xs hk] at hx;cases hx;rw [Nat.zero_add];rw [Array.getElem?_setIfInBounds] at h2
    by_cases hki:i.toNat=k
    . subst hki;rw [if_pos rfl,if_pos (by omega)] at h2;cases h2;rw [if_pos (by omega)];show [Value.int .i64 v]=_;rw [hv]
    . rw [if_neg hki,hcell k hk] at h2;cases h2;rw [if_neg (by omega)];rfl
 . rw [lg,List.getElem?_map] at h;cases hx:(fU i 0 xs)[k]? with
   | none=>rw [hx] at h;cases h
   | some y=>rw [hx] at h;cases h
 . rw [lg,List.getElem?_map] at h;cases hx:(fU i 0 xs)[k]? with
   | none=>rw [hx] at h;cases h
   | some y=>rw [hx] at h;cases h
 . rw [lg,List.getElem?_map] at h;cases hx:(fU i 0 xs)[k]? with
   | none=>rw [hx] at h;cases h
   | some y=>rw [hx] at h;cases h;cases hc
 . rw [lg,List.getElem?_map] at h;cases hx:(fU i 0 xs)[k]? with
   | none=>rw [hx] at h;cases h
   | some y=>rw [hx] at h;cases h;cases hc
def n8:List Spec:=[dr,rn,Bh,uK,Bi]
def k_:List (Nat×List Nat):=[(6,[1,6,7,23,24,25]),(9,[1,6,7,8,23,24,25,31,32,33]),(14,[1,6,7,8,10,12,23,24,25,31,32,33,44,45,46]),(4000018,[12,122])]
def BU (s:Unit):List Spec:=[dr,rn,Bh,uK,Bi]
def vK:Nat->Option (Nat×(Unit->St->Bool×Outs H0)):=fun i=>match i with|4=>some (4,qj H0)|_=>none
theorem Kk:∀ i y,vK i=some y->bw Tryz.prog H0 nL i y.1 y.2:=by
 intro i y h
 unfold vK at h
 split at h
 . cases h;exact RE
 . cases h
def oN:List (List Nat×HdH H0):=[([1,1,1,1,0,1,0,0,1,1,0,0,1,1,0,0,1,1,0,0,1,1,1,0,1,0,0,1,1,0,0,1],⟨fun {ρ} k s st=>cf Tryz.prog H0 (fun s=>ah (BU s)) k_ vK 16 nL k s st⟩)]
theorem Lg (h:∀ s,∀ sp∈BU s,cT Tryz.prog H0 s sp):bG Tryz.prog H0 (av Tryz.f50) (oN):=(bJ (c' := .region 16 nL false) (by kernel_rfl) (cr (fun s g sp hs=>h s sp (List.mem_filter.1 hs).1) k_ Kk) dU)
def L41_2 (N:Nat) (n_L41_0:Nat) (n_L41_1:Nat) (n_L41_2:Nat) (t25_12:Int) (t33_20:Int) (x:aS) (x_18:(List (List (List Int)))) (t_21:Int) (t_22:(List (Int×aE))) (x_23:Int) (x_24:(List (Int×aE))) (x_25:(List (List Int))) (x_26:(List (List (List Int)))) (all_27:(List (Int×(Int×(Int×Unit))))) (times_28:Int) (times_29:Int) (times_30:Int) (times_31:Int) (times_32:Int) (times_33:Int) (times_34:Int) (times_35:Int) (times_36:Int) (times_37:Int) (t46_38:Int):Out (Unit×(Int×(Int×(Int×(Int×Unit))))) :=
 ev Tryz.prog H0 (ah n8) k_ N (oN) Tryz.f50 true false ov [1,1,1,1,0,1,0,n_L41_0,1,1,0,0,1,1,0,n_L41_1,1,1,0,0,1,1,1,0,1,0] n_L41_2 (()) [U,.box [.d (.int .i64) t_21,.d ba t_22],U,U,U,U,.box [.d (.int .i64) x_23,.d ba x_24,.d be x_25,.d ku x_26],.own kt all_27 false,.d (.int .i64) t25_12,U,.d (.int .i64) t33_20,U,.box [.d (.int .i64) times_28,.d (.int .i64) times_29,.d (.int .i64) times_30,.d (.int .i64) times_31,.d (.int .i64) times_32,.d (.int .i64) times_33,.d (.int .i64) times_34,.d (.int .i64) times_35,.d (.int .i64) times_36,.d (.int .i64) times_37],U,U,U,U,U,U,U,U,U,U,.d ba x.1.2.1,.d (.int .i64) (ae x.1.2.1),.d (.int .i64) t25_12,U,U,U,U,U,.d (.list (.int .i64)) ((List.getD x.1.2.1 t25_12.toNat ((0:Int),(([]:List Int),())))).2.1,.d (.int .i64) (ae ((List.getD x.1.2.1 t25_12.toNat ((0:Int),(([]:List Int),())))).2.1),.d (.int .i64) t33_20,U,U,U,U,U,U,U,U,U,U,.d be (List.getD x_18 t33_20.toNat ([]:List (List Int))),.d (.int .i64) (ae (List.getD x_18 t33_20.toNat ([]:List (List Int)))),.d (.int .i64) t46_38,U,U,U,U,U,U,U,U,U,U,U,U,U,U,U,U,U,U,U,U,U,U,U,U,U,U,U,U,U,U,U,U,U,U,U,U,U,U,U]
def L41_1 (N:Nat) (n_L41_0:Nat) (n_L41_1:Nat) (t25_12:Int) (x:aS) (t_13:Int) (t_14:(List (Int×aE))) (x_15:Int) (x_16:(List (Int×aE))) (x_17:(List (List Int))) (x_18:(List (List (List Int)))) (all_19:(List (Int×(Int×(Int×Unit))))) (t33_20:Int):Out (Unit×(Int×(Int×(Int×(Int×Unit))))) :=
 ev Tryz.prog H0 (ah n8) k_ N (oN) Tryz.f50 true false ov [1,1,1,1,0,1,0,n_L41_0,1,1,0,0,1,1,0] n_L41_1 (()) [U,.box [.d (.int .i64) t_13,.d ba t_14],U,U,U,U,.box [.d (.int .i64) x_15,.d ba x_16,.d be x_17,.d ku x_18],.own kt all_19 false,.d (.int .i64) t25_12,U,U,U,U,U,U,U,U,U,U,U,U,U,U,.d ba x.1.2.1,.d (.int .i64) (ae x.1.2.1),.d (.int .i64) t25_12,U,U,U,U,U,.d (.list (.int .i64)) ((List.getD x.1.2.1 t25_12.toNat ((0:Int),(([]:List Int),())))).2.1,.d (.int .i64) (ae ((List.getD x.1.2.1 t25_12.toNat ((0:Int),(([]:List Int),())))).2.1),.d (.int .i64) t33_20,U,U,U,U,U,U,U,U,U,U,U,U,U,U,U,U,U,U,U,U,U,U,U,U,U,U,U,U,U,U,U,U,U,U,U,U,U,U,U,U,U,U,U,U,U,U,U,U,U,U,U,U]
def L41_0 (N:Nat) (n_L41_0:Nat) (x:aS) (t_5:Int) (t_6:(List (Int×aE))) (x_7:Int) (x_8:(List (Int×aE))) (x_9:(List (List Int))) (x_10:(List (List (List Int)))) (all_11:(List (Int×(Int×(Int×Unit))))) (t25_12:Int):Out (Unit×(Int×(Int×(Int×(Int×Unit))))) :=
 ev Tryz.prog H0 (ah n8) k_ N (oN) Tryz.f50 true false ov [1,1,1,1,0,1,0] n_L41_0 (()) [U,.box [.d (.int .i64) t_5,.d ba t_6],U,U,U,U,.box [.d (.int .i64) x_7,.d ba x_8,.d be x_9,.d ku x_10],.own kt all_11 false,U,U,U,U,U,U,U,U,U,U,U,U,U,U,U,.d ba x.1.2.1,.d (.int .i64) (ae x.1.2.1),.d (.int .i64) t25_12,U,U,U,U,U,U,U,U,U,U,U,U,U,U,U,U,U,U,U,U,U,U,U,U,U,U,U,U,U,U,U,U,U,U,U,U,U,U,U,U,U,U,U,U,U,U,U,U,U,U,U,U,U,U,U,U,U,U,U,U]
theorem L41_2_succ (N:Nat) (n_L41_0:Nat) (n_L41_1:Nat) (n_L41_2:Nat) (t25_12:Int) (t33_20:Int) (x:aS) (x_18:(List (List (List Int)))) (t_21:Int) (t_22:(List (Int×aE))) (x_23:Int) (x_24:(List (Int×aE))) (x_25:(List (List Int))) (x_26:(List (List (List Int)))) (all_27:(List (Int×(Int×(Int×Unit))))) (times_28:Int) (times_29:Int) (times_30:Int) (times_31:Int) (times_32:Int) (times_33:Int) (times_34:Int) (times_35:Int) (times_36:Int) (times_37:Int) (t46_38:Int):L41_2 N n_L41_0 n_L41_1 (n_L41_2+1) t25_12 t33_20 x x_18 t_21 t_22 x_23 x_24 x_25 x_26 all_27 times_28 times_29 times_30 times_31 times_32 times_33 times_34 times_35 times_36 times_37 t46_38 =
 (match (decide (t46_38<(ae (List.getD x_18 t33_20.toNat [])))) with|true=>bif (ax t46_38 (List.getD x_18 t33_20.toNat []).length) then bif (ax t25_12 (List.getD (List.getD x_18 t33_20.toNat []) t46_38.toNat []).length) then bif (ax (List.getD (List.getD (List.getD x_18 t33_20.toNat []) t46_38.toNat []) t25_12.toNat 0) 10) then L41_2 N n_L41_0 n_L41_1 n_L41_2 t25_12 t33_20 x x_18 t_21 t_22 x_23 x_24 x_25 x_26 all_27 ((bif (List.getD (List.getD (List.getD x_18 t33_20.toNat []) t46_38.toNat []) t25_12.toNat 0)==0 then IntKind.i64.wrap (times_28+1) else times_28)) ((bif (List.getD (List.getD (List.getD x_18 t33_20.toNat []) t46_38.toNat []) t25_12.toNat 0)==1 then IntKind.i64.wrap (times_29+1) else times_29)) ((bif (List.getD (List.getD (List.getD x_18 t33_20.toNat []) t46_38.toNat []) t25_12.toNat 0)==2 then IntKind.i64.wrap (times_30+1) else times_30)) ((bif (List.getD (List.getD (List.getD x_18 t33_20.toNat []) t46_38.toNat []) t25_12.toNat 0)==3 then IntKind.i64.wrap (times_31+1) else times_31)) ((bif (List.getD (List.getD (List.getD x_18 t33_20.toNat []) t46_38.toNat []) t25_12.toNat 0)==4 then IntKind.i64.wrap (times_32+1) else times_32)) ((bif (List.getD (List.getD (List.getD x_18 t33_20.toNat []) t46_38.toNat []) t25_12.toNat 0)==5 then IntKind.i64.wrap (times_33+1) else times_33)) ((bif (List.getD (List.getD (List.getD x_18 t33_20.toNat []) t46_38.toNat []) t25_12.toNat 0)==6 then IntKind.i64.wrap (times_34+1) else times_34)) ((bif (List.getD (List.getD (List.getD x_18 t33_20.toNat []) t46_38.toNat []) t25_12.toNat 0)==7 then IntKind.i64.wrap (times_35+1) else times_35)) ((bif (List.getD (List.getD (List.getD x_18 t33_20.toNat []) t46_38.toNat []) t25_12.toNat 0)==8 then IntKind.i64.wrap (times_36+1) else times_36)) ((bif (List.getD (List.getD (List.getD x_18 t33_20.toNat []) t46_38.toNat []) t25_12.toNat 0)==9 then IntKind.i64.wrap (times_37+1) else times_37)) (IntKind.i64.wrap (t46_38+1)) else .fail else .fail else .fail|false=>match f77 ((([times_28,times_29,times_30,times_31,times_32,times_33,times_34,times_35,times_36,times_37]:List Int)),()) with | .ret r_39=>(match f65 ((t_21,(t_22,())),(t33_20,())) with | .ret r_41=>bif (bQ all_27 ([(t25_12,(t33_20,((IntKind.i64.wrap (r_39 * r_41)),())))]:List (Int×(Int×(Int×Unit))))) then L41_1 N n_L41_0 n_L41_1 t25_12 x t_21 t_22 x_23 x_24 x_25 x_26 (all_27++([(t25_12,(t33_20,((IntKind.i64.wrap (r_39 * r_41)),())))]:List (Int×(Int×(Int×Unit))))) (IntKind.i64.wrap (t33_20+1)) else .fail | .pan p=>.pan p | .fail=>.fail) | .pan p=>.pan p | .fail=>.fail:Out (Unit×(Int×(Int×(Int×(Int×Unit)))))):=by kernel_rfl
theorem L41_1_succ (N:Nat) (n_L41_0:Nat) (n_L41_1:Nat) (t25_12:Int) (x:aS) (t_13:Int) (t_14:(List (Int×aE))) (x_15:Int) (x_16:(List (Int×aE))) (x_17:(List (List Int))) (x_18:(List (List (List Int)))) (all_19:(List (Int×(Int×(Int×Unit))))) (t33_20:Int):L41_1 N n_L41_0 (n_L41_1+1) t25_12 x t_13 t_14 x_15 x_16 x_17 x_18 all_19 t33_20 =
 (match (decide (t33_20<(ae ((List.getD x.1.2.1 t25_12.toNat (0,([],())))).2.1))) with|true=>bif (ax t33_20 ((List.getD x.1.2.1 t25_12.toNat (0,([],())))).2.1.length) then match ((List.getD ((List.getD x.1.2.1 t25_12.toNat (0,([],())))).2.1 t33_20.toNat 0) != (-1)) with|true=>L41_1 N n_L41_0 n_L41_1 t25_12 x t_13 t_14 x_15 x_16 x_17 x_18 all_19 (IntKind.i64.wrap (t33_20+1))|false=>bif (ax t33_20 x_18.length) then L41_2 N n_L41_0 n_L41_1 N t25_12 t33_20 x x_18 t_13 t_14 x_15 x_16 x_17 x_18 all_19 0 0 0 0 0 0 0 0 0 0 0 else .fail else .fail|false=>L41_0 N n_L41_0 x t_13 t_14 x_15 x_16 x_17 x_18 all_19 (IntKind.i64.wrap (t25_12+1)):Out (Unit×(Int×(Int×(Int×(Int×Unit)))))):=by kernel_rfl
theorem L41_0_succ (N:Nat) (n_L41_0:Nat) (x:aS) (t_5:Int) (t_6:(List (Int×aE))) (x_7:Int) (x_8:(List (Int×aE))) (x_9:(List (List Int))) (x_10:(List (List (List Int)))) (all_11:(List (Int×(Int×(Int×Unit))))) (t25_12:Int):L41_0 N  (n_L41_0+1) x t_5 t_6 x_7 x_8 x_9 x_10 all_11 t25_12 =
 (match (decide (t25_12<(ae x.1.2.1))) with|true=>bif (ax t25_12 x.1.2.1.length) then L41_1 N n_L41_0 N t25_12 x t_5 t_6 x_7 x_8 x_9 x_10 all_11 0 else .fail|false=>match pO (all_11,((Value.func (.func 91) #[] #[]),())) with | .ret r_43=>(match (!r_43.2.1) with|true=>.ret ((()),(0,(0,(0,(5,())))))|false=>.ret ((()),(r_43.1.1,(r_43.1.2.1,(r_43.1.2.2.1,(0,())))))) | .pan p=>.pan p | .fail=>.fail:Out (Unit×(Int×(Int×(Int×(Int×Unit)))))):=by kernel_rfl
def wG (N:Nat) (x:aS):Out (Unit×(Int×(Int×(Int×(Int×Unit))))):=match f55 (x.1,()) with | .ret r_1=>(match (!r_1) with|true=>.ret ((()),(0,(0,(0,(2,())))))|false=>match pN (x.1,()) with | .ret r_3=>L41_0 N N x x.1.1 x.1.2.1 r_3.1.1.1 r_3.1.1.2.1 r_3.1.2.1 r_3.2.1 ([]:List (Int×(Int×(Int×Unit)))) 0 | .pan p=>.pan p | .fail=>.fail) | .pan p=>.pan p | .fail=>.fail
theorem N' (N:Nat) (x:aS):cD Tryz.prog H0 (ah n8) k_ N (oN) Tryz.f50 true false cB ov (()) x=wG N x:=by kernel_rfl
def f41 (x:aS):Out (Int×(Int×(Int×(Int×Unit)))):=dY (wG fuel x)
def Vu:Spec:=⟨50,.call,cB,ov,true,false,f41⟩
theorem Mn:am Tryz.prog Vu:=jM (H:=H0) () (fun w b h=>h) (fun M w=>trivial) (l:=n8) (fun sp hs=>(by simp only [n8,List.mem_cons,List.not_mem_nil,or_false] at hs;rcases hs with rfl|rfl|rfl|rfl|rfl<;>first|exact dh|exact sS|exact Eb|exact xW|exact Ec)) Tryz.func50 rfl (Lg fun s sp hs=>.inl (by simp only [BU,List.mem_cons,List.not_mem_nil,or_false] at hs;rcases hs with rfl|rfl|rfl|rfl|rfl<;>first|exact dh|exact sS|exact Eb|exact xW|exact Ec)) k_ fuel (N' fuel)
end Go.V
end
