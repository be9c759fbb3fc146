/- Part. -/
import Derived.Test.YtmkbnifehdhbbabGreatDoorDD
import Derived.Test.YtmkbnifehdhbbabGreatDoorDB
import Derived.Test.YtmkbnifehdhbbabGreatDoorShelf
set_option linter.all false
noncomputable section
namespace Go.V
open Go.Proofs
open Go.RowKit (Below)
def db (xs:List Int):List Int:=Lib.compact (xs.mergeSort fun x y=>decide (x<=y))
theorem Hy {w:World} {g k:Nat} {d:Array Int} {n:Nat} (hk:k≠g):(Sort.putRow (Value.int .i64) (Sort.ahead w n) g 0 d).heap[k]? = w.heap[k]? := by
 unfold Sort.putRow Sort.mapBlock Sort.ahead;simp only [Array.getElem?_modify];rw [if_neg (Ne.symm hk)]
theorem Rr {w:World} {os:Array Obj} {k:Nat} (hk:k<w.heap.size):(Sort.grow w os).heap[k]? = w.heap[k]? := by
 unfold Sort.grow;simp only [Array.getElem?_append];rw [if_pos hk]
theorem Ui {M:ai} {w:World} {g cap:Nat} {xs:List Int} {cells:Array Value} {T:TypeId} (hrep:af M w (.list (.int .i64)) [.slice (some ⟨g,0,none⟩) xs.length cap] xs) (hh:w.heap[g]? = some (.cells cells T (0,0))):Sort.Holds (Value.int .i64) w g 0 xs.toArray:=by
 intro j hj;have hj:j<xs.length:=by simpa using hj
 obtain ⟨ad,cp,e1,e2,e3⟩:=hrep;simp only [List.cons.injEq,Value.slice.injEq,and_true] at e1;have e1:=e1.1;subst e1;obtain ⟨b,o,ec,f1,f2,f3,f4⟩:=e3 j hj;simp only [Option.some.injEq,Addr.mk.injEq,and_true] at f1;obtain ⟨rfl,rfl⟩:=f1;have f4:ec=[.int .i64 xs[j]]:=f4;subst f4;have:=(f3 0 (by simp)).1;refine ⟨?_,?_⟩
 . have e:xs.toArray[j]! = xs[j]:=by rw [getElem!_pos _ j (by simpa using hj)];simp
   rw [e];have this:w.cell? ⟨g,0+j * 1+0,none⟩=some (.int .i64 xs[j]):=this;rw [Nat.mul_one,Nat.add_zero] at this;exact this
 . unfold World.frozen?;simp [hh]
theorem UW {M:ai} {w:World} {g cap:Nat} {xs:List Int} (hh:Sort.Holds (Value.int .i64) w g 0 xs.toArray) (hc:xs.length<=cap) (hM:∀ o,¬ M g o):af M w (.list (.int .i64)) [.slice (some ⟨g,0,none⟩) xs.length cap] xs:=by
 refine ⟨some ⟨g,0,none⟩,cap,rfl,hc,fun i hi=>⟨g,0,[.int .i64 xs[i]],rfl,rfl,fun j hj=>?_,rfl⟩⟩;have hi:i<List.length (α:=Int) xs:=hi;have hj:j=0:=by simpa using hj
 subst hj;have:=(hh i (by simpa using hi)).1;have e:xs.toArray[i]! = List.get (α:=Int) xs ⟨i,hi⟩:=by rw [getElem!_pos _ i (by simpa using hi)];simp
 rw [e] at this;refine ⟨?_,hM _⟩;show w.cell? ⟨g,0+i * 1+0,none⟩=some (.int .i64 (List.get (α:=Int) xs ⟨i,hi⟩));rw [Nat.mul_one,Nat.add_zero];exact this
theorem Ni (zs:List Int):(Lib.compact zs).length<=zs.length:=by
 unfold Lib.compact Lib.compactUpTo;rw [List.length_map];refine Nat.le_trans (List.length_filter_le _ _) ?_;simp
theorem Vh {M:ai} {w:World} {v:Value} {xs:List Int} (hrep:af M w (.list (.int .i64)) [v] xs) (hown:ff M w 1 v xs.length) (hl:xs.length<1000000000) :
 Calls Tryz.prog 68 #[v] w fun e w1=>(∃ u,e = .returned u)/\Fr (fun k=>k<w.heap.size/\ag v≠some k) w w1/\Calls Tryz.prog 69 #[v] w1 fun e w2=>∃ u,e = .returned u/\Fr (fun k=>k<w.heap.size/\ag v≠some k) w w2/\af (fun b o=>M b o/\ag v≠some b) w2 (.list (.int .i64)) [u] (db xs):=by
 rcases hown with ⟨rfl,h0⟩|⟨g,cap,cells,T,rfl,hh,hcap,_,hsz,_⟩
 . have hx:xs=[]:=List.eq_nil_of_length_eq_zero h0;subst hx;have h74:Calls Tryz.prog 68 #[.slice none 0 0] w fun e w'=>e = .returned (.tuple #[])/\w'=w:=Any.slices_Sort_int_none Tryz.lays189 none 0 w
   refine h74.mono ?_;rintro e w1 ⟨rfl,rfl⟩;refine ⟨⟨_,rfl⟩,Fr.refl _ _,(Tryz.slices_Compact_int_empty none 0 w1).mono ?_⟩;rintro e w2 ⟨rfl,rfl⟩;have hz:db []=[]:=by unfold db Lib.compact Lib.compactUpTo;simp
   rw [hz];exact ⟨_,rfl,Fr.refl _ _,af.list_nil _⟩
 . have hg:g<w.heap.size:=(Array.getElem?_eq_some_iff.1 hh).1;have hH:=Ui hrep hh;have h74:=Tryz.slices_Sort_int g 0 cap xs w hH hg (by omega);refine h74.mono ?_;rintro e w1 ⟨rfl,n,os,rfl⟩;obtain ⟨ys,hys⟩:∃ ys,ys=xs.mergeSort fun x y=>decide (x<=y):=⟨_,rfl⟩
   rw [<- hys];have hyl:ys.length=xs.length:=by rw [hys,List.length_mergeSort]
   obtain ⟨w0,hw0⟩:∃ w0,w0=Sort.putRow (Value.int .i64) (Sort.ahead w n) g 0 ys.toArray:=⟨_,rfl⟩
   rw [<- hw0];have hs0:w0.heap.size=w.heap.size:=by rw [hw0,Sort.size_putRow];rfl
   have hH0:Sort.Holds (Value.int .i64) w0 g 0 ys.toArray:=by rw [hw0];exact Sort.holds_putRow _ _ _ _ _ _ (Sort.holds_ahead _ _ n _ _ _ hH) (by simp [hyl])
   obtain ⟨w1,hw1⟩:∃ w1,w1=Sort.grow w0 os:=⟨_,rfl⟩
   rw [<- hw1];have hb1:∀ k,k<w.heap.size->w1.heap[k]? = w0.heap[k]? := fun k hk=>by rw [hw1];exact Rr (by omega)
   have hH1:Sort.Holds (Value.int .i64) w1 g 0 ys.toArray:=fun j hj=>by
    obtain ⟨h1,h2⟩:=hH0 j hj;refine ⟨(World.cell?_of_block (a:=⟨g,0+j,none⟩) (hb1 g hg)).trans h1,?_⟩;unfold World.frozen? at h2 ⊢;rw [show w1.heap[(⟨g,0+j,none⟩:Addr).block]? = w0.heap[g]? from hb1 g hg];exact h2
   have hs1:w.heap.size<=w1.heap.size:=by rw [hw1,Sort.size_grow];omega
   have hf1:Fr (fun k=>k<w.heap.size/\ag (.slice (some ⟨g,0,none⟩) xs.length cap)≠some k) w w1:=by
    refine ⟨by rw [hw1,hw0];rfl,by rw [hw1,hw0];rfl,by rw [hw1,hw0];rfl,hs1,fun k hk=>?_⟩;rw [hb1 k hk.1,hw0,Hy];exact fun e=>hk.2 (by rw [e];rfl)
   refine ⟨⟨_,rfl⟩,hf1,?_⟩;have h75:=Tryz.slices_Compact_int g 0 cap ys w1 hH1 (by omega) (by omega);rw [hyl] at h75;refine h75.mono ?_;rintro e w2 ⟨rfl,q,rfl⟩;have hcl:=Ni ys;obtain ⟨zs,hzs⟩:∃ zs,zs=Lib.compact ys:=⟨_,rfl⟩
   rw [<- hzs] at hcl ⊢;obtain ⟨w2,hw2⟩:∃ w2,w2=Sort.putRow (Value.int .i64) (Sort.ahead w1 q) g 0 (zs++List.replicate (xs.length - zs.length) 0).toArray:=⟨_,rfl⟩
   rw [<- hw2];have hH2:Sort.Holds (Value.int .i64) w2 g 0 (zs++List.replicate (xs.length - zs.length) 0).toArray:=by rw [hw2];exact Sort.holds_putRow _ _ _ _ _ _ (Sort.holds_ahead _ _ q _ _ _ hH1) (by simp;omega)
   have hH3:Sort.Holds (Value.int .i64) w2 g 0 zs.toArray:=fun j hj=>by
    have hj:j<zs.length:=by simpa using hj
    obtain ⟨h1,h2⟩:=hH2 j (by simp;omega);refine ⟨?_,h2⟩;have e:(zs++List.replicate (xs.length - zs.length) 0).toArray[j]! = zs.toArray[j]! := by
     rw [getElem!_pos _ j (by simp;omega),getElem!_pos _ j (by simpa using hj)];simp [List.getElem_append_left hj]
    rw [h1,e]
   refine ⟨_,rfl,hf1.trans ⟨by rw [hw2];rfl,by rw [hw2];rfl,by rw [hw2];rfl,by rw [hw2,Sort.size_putRow];exact Nat.le_refl _,fun k hk=>?_⟩,?_⟩
   . rw [hw2,Hy];exact fun e=>hk.2 (by rw [e];rfl)
   . have hz:db xs=zs:=by unfold db;rw [hzs,hys]
     rw [hz];exact UW hH3 (by omega) fun o h=>h.2 rfl
def gD (nt:Nat) (r:List Int):St:=((List.replicate nt S.und).set 6 (.d (.list (.int .i64)) r)).set 7 (.d (.int .i64) (0:Int))
theorem EH {g:Nat} (hent:fG Tryz.prog g=true) {a:Act} {w:World} {o:Oper} {p:Nat} {v:Value} (ho:o.op = .call { callee:=.value (.func g),args := #[.tmp p],argTypes := #[25] }) (h1:tm a p=v):(execOp a.eval o).run Tryz.prog w = .ok (.enter g #[v]) w:=by
 have e1:a.eval (.tmp p)=v:=h1;have e4:a.eval (.func g) = .func (.func g) #[] #[]:=rfl;have e3:=dK (P:=Tryz.prog) (g:=g) hent #[v] w;simp [execOp,ho,resolve,e1,e4,Deferred.ofValue,invoke,e3]
theorem O_ {a:Act} {w:World} {o:Oper} {v:Value} (ho:o.op = .assign (.const v)):(execOp a.eval o).run Tryz.prog w = .ok (.value v) w:=by
 simp [execOp,ho,Act.eval]
theorem JA {H:Hole} {s:H.σ} (hs:∀ w b,¬ H.hb s w b) (hs':∀ M w,H.I s M w) {F:Nat->Prop} {M0:Base} {w0:World} {n:Nat} (hz:Zf F M0) (hpl:∀ j v,M0.pin j=some v->False) {Q:Exit->Act->World->Prop} {st:St} {act:Act} {w:World} {M:ai}
 (hfr:Fr F w0 w) (hG:bv H F M0 s M st act w) {nt src p1 p2 p3 p4:Nat} (hlen:st.length=nt) (hp:7<p1/\p1<p2/\p2<p3/\p3<p4/\p4<nt/\src<p1) {v:Value} {xs:List Int} (hrep:af M w (.list (.int .i64)) [v] xs) (hown:ff M w 1 v xs.length) (hl:xs.length<1000000000)
 (hgF:∀ g,ag v=some g->¬ F g) {rA rB:Array Oper} {i1 i2:Nat} {opA:Op} (hA:rA.toList.map a_=[(some p1,opA,none),(some p2,.call { callee:=.value (.func 68),args := #[.tmp p1],argTypes := #[25] },none)])
 (hB:rB.toList.map a_=[(some p3,opA,none),(some p4,.call { callee:=.value (.func 69),args := #[.tmp p3],argTypes := #[25] },none),(some 6,.assign (.tmp p4),none),(some 7,.assign (.const (.int .i64 0)),none)])
 (hop:(∀ c,opA ≠ .defer c)/\∀ (o:Oper) (a:Act) (w':World),o.op=opA->tm a src=tm act src->Fr (fun k=>k<w.heap.size/\ag v≠some k) w w'->(execOp a.eval o).run Tryz.prog w' = .ok (.value v) w')
 (hQ:∀ a' w',bH H F M0 w0 s (gD nt (db xs)) a' w'->Q .ret a' w'):(Code.seq (.region i1 rA false) (.seq (.region i2 rB false) .ret)).wpIn (aA none) n Tryz.prog Q act w:=by
 have hg:=hG.2.1;have hsz:act.tmps.size=nt:=hg.size.trans hlen;have hrA:rA.size=2:=by have:=congrArg List.length hA;simpa using this
 have hrB:rB.size=4:=by have:=congrArg List.length hB;simpa using this
 obtain ⟨o0,i0,d0,q0,g0⟩:=aB hA (i:=0) rfl;obtain ⟨o1,i1',d1,q1,g1⟩:=aB hA (i:=1) rfl;obtain ⟨o2,i2',d2,q2,g2⟩:=aB hB (i:=0) rfl;obtain ⟨o3,i3,d3,q3,g3⟩:=aB hB (i:=1) rfl;obtain ⟨o4,i4,d4,q4,g4⟩:=aB hB (i:=2) rfl;obtain ⟨o5,i5,d5,q5,g5⟩:=aB hB (i:=3) rfl;simp only at d0 q0 g0 d1 q1 g1 d2 q2 g2 d3 q3 g3 d4 q4 g4 d5 q5 g5;obtain ⟨hp0,hp1,hp2,hp3,hp4,hp5⟩:=hp;refine wpIn_seq (wpIn_region ?_);rw [hrA];show wpOpsIn (aA none) n Tryz.prog rA _ [0,1] act w;rw [wpOpsIn_cons];refine aV i0 (aC g0) (fun c h=>hop.1 c (q0 ▸ h)) (hop.2 o0 act w q0 rfl (Fr.refl _ _)) ?_;rw [d0,wpOpsIn_cons];refine gz i1' (aC g1) (fun c h=>by rw [q1] at h;cases h) (EH (by kernel_rfl) q1 (ay (by omega))) ((Vh hrep hown hl).mono ?_);rintro e w1 ⟨⟨u,rfl⟩,hf1,h75⟩;refine ⟨u,rfl,?_⟩;rw [d1];show (Code.seq (.region i2 rB false) .ret).wpIn (aA none) n Tryz.prog Q ((act.put (some p1) v).put (some p2) u) w1;refine wpIn_seq (wpIn_region ?_);rw [hrB];show wpOpsIn (aA none) n Tryz.prog rB _ [0,1,2,3] ((act.put (some p1) v).put (some p2) u) w1;rw [wpOpsIn_cons];refine aV i2' (aC g2) (fun c h=>hop.1 c (q2 ▸ h)) (hop.2 o2 _ w1 q2 (by rw [aj (by omega),aj (by omega)]) hf1) ?_;rw [d2,wpOpsIn_cons];refine gz i3 (aC g3) (fun c h=>by rw [q3] at h;cases h) (EH (by kernel_rfl) q3 (ay (by rw [aG,aG];omega))) (h75.mono ?_);rintro e w2 ⟨r,rfl,hf2,hrep2⟩;refine ⟨r,rfl,?_⟩;rw [d3,wpOpsIn_cons];refine aV i4 (aC g4) (fun c h=>by rw [q4] at h;cases h) (tj q4) ?_;rw [ay (by simp only [aG];omega),d4,wpOpsIn_cons];refine aV i5 (aC g5) (fun c h=>by rw [q5] at h;cases h) (O_ q5) ?_;rw [d5];refine wpIn_ret (hQ _ _ ?_);obtain ⟨a',ha'⟩:∃ a',a'=(((((act.put (some p1) v).put (some p2) u).put (some p3) v).put (some p4) r).put (some 6) r).put (some 7) (.int .i64 0):=⟨_,rfl⟩
 rw [<- ha'];have hsz':a'.tmps.size=nt:=by rw [ha'];simp only [aG];exact hsz
 have t6:tm a' 6=r:=by rw [ha',aj (by omega),ay (by simp only [aG];omega)]
 have t7:tm a' 7 = .int .i64 0:=by rw [ha',ay (by simp only [aG];omega)]
 have hFg:∀ b,F b->ag v≠some b:=fun b hb e=>hgF b e hb
 have hb:∀ k,k<w.heap.size->ag v≠some k->w2.heap[k]? = w.heap[k]? := fun k h1 h2=>hf2.block k ⟨h1,h2⟩
 have hlt6:6<(List.replicate nt S.und).length:=by simp;omega
 have g6:get (gD nt (db xs)) 6 = .d (.list (.int .i64)) (db xs):=by
  unfold gD;rw [eU (by omega),bu _ _ _ _ hlt6,if_pos rfl]
 have g7:get (gD nt (db xs)) 7 = .d (.int .i64) (0:Int):=by
  unfold gD;rw [bu _ _ _ _ (by simp;omega),if_pos rfl]
 have gu:∀ i,i≠6->i≠7->get (gD nt (db xs)) i = .und:=fun i h1 h2=>by
  unfold gD;rw [eU h2,eU h1,Ro]
 have hno:∀ i k b,¬ ap (gD nt (db xs)) a' w2 i k b:=fun i k b ho=>by
  have key:bf (get (gD nt (db xs)) i)=false:=by
   by_cases e6:i=6
   . subst e6;rw [g6];rfl
   . by_cases e7:i=7
     . subst e7;rw [g7];rfl
     . rw [gu i e6 e7];rfl
  cases k with
  | none=>rw [ho.1] at key;cases key
  | some k=>obtain ⟨cs,_,_,_,e,_⟩:=ho;rw [e] at key;cases key
 have hdf:a'.defers=act.defers:=by rw [ha'];simp only [Ex]
 have hKD:bF w w2:=fun D c e=>by
  rw [hb D (Array.getElem?_eq_some_iff.1 e).1 fun hv=>?_]
  . exact e
  . rcases hown with ⟨rfl,_⟩|⟨g,cap,cells,T,rfl,hh,_⟩
    . cases hv
    . cases hv;rw [hh] at e;cases e
 refine ⟨hfr.trans ⟨hf2.os,hf2.tape,hf2.output,hf2.size,fun k hk=>hb k (hg.room k hk) (hFg k hk)⟩,fun b o=>M b o/\ag v≠some b,hs' _ _,?_,fun b h=>absurd h (hs w2 b)⟩;refine ⟨by rw [hdf];exact hg.defers.keep hKD,by rw [hsz'];unfold gD;simp,fun b h=>Nat.lt_of_lt_of_le (hg.room b h) hf2.size,hg.base,fun b o h=>⟨hg.up b o h,hFg b (hg.base b o h)⟩,fun b o h=>Nat.lt_of_lt_of_le (hg.lt b o h.1) hf2.size,fun b o hF h=>hg.down b o hF h.1,
  fun i=>?_,fun i k j l b h=>absurd h (hno i k b),fun i k b h=>absurd h (hno i k b),fun b o u h1 h2=>?_,fun j v hj=>(hpl j v hj).elim,hg.dm⟩
 . by_cases e6:i=6
   . subst e6;rw [g6,t6];exact ⟨[r],rfl,hrep2⟩
   . by_cases e7:i=7
     . subst e7;rw [g7,t7];exact ⟨_,rfl,rfl⟩
     . rw [gu i e6 e7];trivial
 . obtain ⟨k1,k2⟩:=hg.keep b o u h1 h2;have hFb:=hz b (c_ h1);exact ⟨(World.cell?_of_block (a:=⟨b,o,none⟩) (hb b (hg.room b hFb) (hFg b hFb))).trans k1,fun h=>k2 h.1⟩
open Go.RowKit (Below)
theorem Es {H:Hole} (s0:H.σ) (h0:∀ w b,¬ H.hb s0 w b) (hI0:∀ M w,H.I s0 M w) {l:List Spec} (hl:∀ sp∈l,am Tryz.prog sp) {fnn:Nat} {arg res:Ty} {multi own:Bool} {F:arg.den->Out (H.σ×res.den)} {fn:Func} {c:Code}
 (hfn:Tryz.prog.funcs[fnn]? = some fn) (hb:fn.body=some c) {T:List (List Nat×HdH H)} (hT:du Tryz.prog H c T) (hints:List (Nat×List Nat)) (n:Nat)
 (h:∀ x,cD Tryz.prog H (ah l) hints n T fn multi own arg res s0 x=F x):am Tryz.prog ⟨fnn,.call,arg,res,multi,own,fun x=>dY (F x)⟩ :=
 Nn s0 h0 hI0 mixed hl hfn hb hT hints n h (fun x p hp=>Ez hp) fun x r hr=>EA hr
def UG:Array Oper:=bp 9 (av Tryz.f49)
def UF:Array Oper:=bp 10 (av Tryz.f49)
def Jw:Code:=.seq (.region 9 UG false) (.seq (.region 10 UF false) .ret)
def rR {ρ:Type} (k:X->H0.σ->St->Out ρ) (s:H0.σ) (st:St):Out ρ :=
 match get st 8 with
 | .own (.int .i64) xs _=>bif st.length==47 && decide (List.length (α:=Int) xs<1000000000) then k .ret s (gD 47 (db xs)) else .fail
 | _=>.fail
theorem KF:rY Tryz.prog H0 Jw (fun {ρ} k s st=>rR k s st):=by
 intro ρ fin hf hr F M0 w0 n hz hI hpl k Q hQ s st a w hc h;have h:rR k s st=fin:=h;unfold rR at h;split at h;rotate_left
 . exact absurd h.symm hf
 rename_i xs hot e8;cases hcd:(st.length==47 && decide (List.length (α:=Int) xs<1000000000)) with
 | false=>rw [hcd] at h;exact absurd h.symm hf
 | true =>
 rw [hcd] at h;simp only [Bool.and_eq_true,beq_iff_eq,decide_eq_true_eq] at hcd;obtain ⟨hlen,hl⟩:=hcd;obtain ⟨hfr,M,hG⟩:=hc;have s8:=hG.2.1.slot 8;rw [e8] at s8;refine JA (src:=8) (p1:=43) (p2:=44) (p3:=45) (p4:=46) (opA:=.move (.tmp 8)) (fun w b h=>h) (fun M w=>trivial) hz hpl hfr hG hlen (by omega) s8.1 s8.2 hl (fun g hg=>hG.2.1.new 8 none g ⟨by rw [e8];rfl,hg⟩) (by kernel_rfl) (by kernel_rfl)
  ⟨fun c h=>(by cases h),fun o a' w' ho ht _=>by rw [fQ ho,ht]⟩ fun a' w' hc'=>hQ .ret s _ a' w' hc' h
def UH:Array Oper:=bp 13 (av Tryz.f24)
def UI:Array Oper:=bp 14 (av Tryz.f24)
def Jz:Code:=.seq (.region 13 UH false) (.seq (.region 14 UI false) .ret)
def rS {ρ:Type} (k:X->HP.σ->St->Out ρ) (s:HP.σ) (st:St):Out ρ :=
 match (show Option PS from s) with
 | none=>(match get st 9 with
  | .box [.own (.int .i64) xs _]=>bif st.length==57 && decide (List.length (α:=Int) xs<1000000000) then k .ret (none:Option PS) (gD 57 (db xs)) else .fail
  | _=>.fail)
 | some _=>.fail
theorem KG:rY Tryz.prog HP Jz (fun {ρ} k s st=>rS k s st):=by
 intro ρ fin hf hr F M0 w0 n hz hI hpl k Q hQ s st a w hc h;have h:rS k s st=fin:=h;obtain ⟨s',hs'⟩:∃ z:Option PS,z=s:=⟨_,rfl⟩
 cases s' with
 | some ps=>subst hs';exact absurd (show Out.fail=fin from h).symm hf
 | none =>
 subst hs';unfold rS at h;dsimp only at h;split at h;rotate_left
 . exact absurd h.symm hf
 rename_i xs hot e9;cases hcd:(st.length==57 && decide (List.length (α:=Int) xs<1000000000)) with
 | false=>rw [hcd] at h;exact absurd h.symm hf
 | true =>
 rw [hcd] at h;simp only [Bool.and_eq_true,beq_iff_eq,decide_eq_true_eq] at hcd;obtain ⟨hlen,hl⟩:=hcd;obtain ⟨hfr,M,hG⟩:=hc;have hg:=hG.2.1;have s9:=hg.slot 9;rw [e9] at s9;obtain ⟨b9,T9,cells,t9,hb9,hc9,hok9⟩:=ja s9;obtain ⟨v,rfl⟩:=sF (hc9.trans rfl);have hv:=hok9 0 _ v rfl rfl;have ho9:ap st a w 9 none b9:=⟨by rw [e9];rfl,by rw [t9];rfl⟩
 have hov:∀ g,ag v=some g->ap st a w 9 (some 0) g:=fun g hg'=>⟨_,_,b9,v,e9,rfl,rfl,by rw [t9];rfl,cj hb9 rfl,hg'⟩
 have l9:b9<w.heap.size:=(Array.getElem?_eq_some_iff.1 hb9).1;refine JA (src:=9) (p1:=53) (p2:=54) (p3:=55) (p4:=56) (opA:=.load 25 (.tmp 9)) mr mq hz hpl hfr hG hlen (by omega) hv.1 hv.2 hl (fun g hg'=>hg.new 9 (some 0) g (hov g hg')) (by kernel_rfl) (by kernel_rfl)
  ⟨fun c h=>(by cases h),fun o a' w' ho ht hf'=>?_⟩ fun a' w' hc'=>hQ .ret (none:Option PS) _ a' w' hc' h
 refine kM (T:=25) (t:=.list (.int .i64)) (by kernel_rfl) rfl rfl ho (ht.trans t9) ((hf'.block b9 ⟨l9,fun e=>?_⟩).trans hb9);have:=(hg.one 9 none 9 (some 0) b9 ho9 (hov b9 e)).2;cases this
def uQ:List Spec:=[dr,lW,rp]
def kZ:List (Nat×List Nat):=[(5,[1,8,29,30,31])]
def uU (s:Unit):List Spec:=[dr,lW,rp]
def Am:Array Oper:=bp 4 (av Tryz.f49)
def vJ:Nat->Option (Nat×(Unit->St->Bool×Outs H0)):=fun i=>match i with|2=>some (1,iH H0 be preS aq 47 26 27 28 29)|_=>none
theorem Kh:∀ i y,vJ i=some y->bw Tryz.prog H0 Am i y.1 y.2:=by
 intro i y h
 unfold vJ at h
 split at h
 . cases h;exact B3 (i:=2) (by decide) (by decide) (by decide) (by kernel_rfl) (by kernel_rfl)
 . cases h
def An:Array Oper:=bp 5 (av Tryz.f49)
def CC:Nat->Option (Nat×(Unit->St->Bool×Outs H0)):=fun _=>none
theorem Kj:∀ i y,CC i=some y->bw Tryz.prog H0 An i y.1 y.2:=fun _ _ h=>by cases h
def xq:List (List Nat×HdH H0):=[([1,1,1,0,0],⟨fun {ρ} k s st=>cf Tryz.prog H0 (fun s=>ah (uU s)) kZ vJ 4 Am k s st⟩),
 ([1,1,1,0,1,0,0,0],⟨fun {ρ} k s st=>cf Tryz.prog H0 (fun s=>ah (uU s)) kZ CC 5 An k s st⟩),
 ([1,1,1,1],⟨fun {ρ} k s st=>rR k s st⟩)]
theorem Lf (h:∀ s,∀ sp∈uU s,cT Tryz.prog H0 s sp):du Tryz.prog H0 (av Tryz.f49) (xq):=(sB (c' := .region 4 Am false) (by kernel_rfl) (cr (fun s g sp hs=>h s sp (List.mem_filter.1 hs).1) kZ Kh) (sB (c' := .region 5 An false) (by kernel_rfl) (cr (fun s g sp hs=>h s sp (List.mem_filter.1 hs).1) kZ Kj) (xG (c':=Jw) (by kernel_rfl) KF DM)))
def L36_0 (N:Nat) (n_L36_0:Nat) (x:eV) (out_7:(List Int)) (t31_8:Int):Out (Unit×bB) :=
 ev Tryz.prog H0 (ah uQ) kZ N (xq) Tryz.f49 true false ch [1,1,1,0,1,0] n_L36_0 (()) [U,.d (.int .i64) x.2.1,U,U,U,U,U,U,.own (.int .i64) out_7 false,U,U,U,U,U,U,U,U,U,U,U,U,U,U,U,U,U,U,U,U,.d be ((aq x.1 x.2.2.1)),.d (.int .i64) (ae ((aq x.1 x.2.2.1))),.d (.int .i64) t31_8,U,U,U,U,U,U,U,U,U,U,U,U,U,U,U]
theorem L36_0_succ (N:Nat) (n_L36_0:Nat) (x:eV) (out_7:(List Int)) (t31_8:Int):L36_0 N  (n_L36_0+1) x out_7 t31_8 =
 (match (decide (t31_8<(ae ((aq x.1 x.2.2.1))))) with|true=>bif (ax t31_8 ((aq x.1 x.2.2.1)).length) then bif (ax x.2.1 (List.getD ((aq x.1 x.2.2.1)) t31_8.toNat []).length) then bif (bQ out_7 ([(List.getD (List.getD ((aq x.1 x.2.2.1)) t31_8.toNat []) x.2.1.toNat 0)]:List Int)) then L36_0 N n_L36_0 x (out_7++([(List.getD (List.getD ((aq x.1 x.2.2.1)) t31_8.toNat []) x.2.1.toNat 0)]:List Int)) (IntKind.i64.wrap (t31_8+1)) else .fail else .fail else .fail|false=>bif (decide ((out_7:List Int).length<1000000000)) then .ret ((()),(((db out_7)),(0,()))) else .fail:Out (Unit×bB)):=by kernel_rfl
def wE (N:Nat) (x:eV):Out (Unit×bB):=match f55 (x.1,()) with | .ret r_1=>(match (!r_1) with|true=>.ret ((()),([],(2,())))|false=>match f56 (x.1,(x.2.1,())) with | .ret r_3=>(match (!r_3) with|true=>.ret ((()),([],(2,())))|false=>match f73 (x.1,(x.2.2.1,())) with | .ret r_5=>(match (!r_5) with|true=>.ret ((()),([],(2,())))|false=>bif (preS x.1 x.2.2.1) then L36_0 N N x [] 0 else .fail) | .pan p=>.pan p | .fail=>.fail) | .pan p=>.pan p | .fail=>.fail) | .pan p=>.pan p | .fail=>.fail
theorem N8 (N:Nat) (x:eV):cD Tryz.prog H0 (ah uQ) kZ N (xq) Tryz.f49 true false iP ch (()) x=wE N x:=by kernel_rfl
def f36 (x:eV):Out bB:=dY (wE fuel x)
def Vs:Spec:=⟨49,.call,iP,ch,true,false,f36⟩
theorem Mj:am Tryz.prog Vs:=Es (H:=H0) () (fun w b h=>h) (fun M w=>trivial) (l:=uQ) (fun sp hs=>(by simp only [uQ,List.mem_cons,List.not_mem_nil,or_false] at hs;rcases hs with rfl|rfl|rfl<;>first|exact dh|exact mF|exact sT)) Tryz.func49 rfl (Lf fun s sp hs=>.inl (by simp only [uU,List.mem_cons,List.not_mem_nil,or_false] at hs;rcases hs with rfl|rfl|rfl<;>first|exact dh|exact mF|exact sT)) kZ fuel (N8 fuel)
def kn:List Spec:=[dr,uL,uM,fw,Bk]
def jT:List (Nat×List Nat):=[(6,[4,8,9,30,31,32])]
def sP:Code:=match fi [1,1,1,1,0,1,0,0,1,1,0,0,1,0,1,1,0] (av Tryz.f24) with|some c=>c|none=>.skip
theorem K8:∀ sp∈kn,am Tryz.prog sp:=fun sp hs=>(by simp only [kn,List.mem_cons,List.not_mem_nil,or_false] at hs;rcases hs with rfl|rfl|rfl|rfl|rfl<;>first|exact dh|exact sR|exact sV|exact fO|exact xX)
def BW (s:Option PS):List Spec:=[dr,uL,uM,fw,Bk]
def Ao:Array Oper:=bp 8 (av Tryz.f24)
def vM:Nat->Option (Nat×(Option PS->St->Bool×Outs HP)):=fun i=>match i with|2=>some (0,kz 57 36 37 38)|_=>none
theorem Km:∀ i y,vM i=some y->bw Tryz.prog HP Ao i y.1 y.2:=by
 intro i y h
 unfold vM at h
 split at h
 . cases h;exact (vu (i:=2) (by kernel_rfl)).one
 . cases h
def sl:List (List Nat×HdH HP):=[([1,1,1,1,0,1,0,0,1,1,0,0,1,0,1,0],⟨fun {ρ} k s st=>cf Tryz.prog HP (fun s=>ah (BW s)) jT vM 8 Ao k s st⟩),
 ([1,1,1,1,0,1,0,0,1,1,0,0,1,0,1,1,0],⟨fun {ρ} k s st=>nU (ah kn) jT fuel 38 39 (nR sP) (nS sP) k s st⟩),
 ([1,1,1,1,1],⟨fun {ρ} k s st=>rS k s st⟩)]
theorem Li (h:∀ s,∀ sp∈BW s,cT Tryz.prog HP s sp):du Tryz.prog HP (av Tryz.f24) (sl):=(sB (c' := .region 8 Ao false) (by kernel_rfl) (cr (fun s g sp hs=>h s sp (List.mem_filter.1 hs).1) jT Km) (sB (c' := .rangeFunc (.tmp 38) #[39] (nR sP) (nS sP)) (by kernel_rfl) (AM (eK K8) jT fuel 38 39 _ _) (xG (c':=Jz) (by kernel_rfl) KG DM)))
def R51_1 (N:Nat) (n_L51_0:Nat) (ys_22:List Int) (x:jo) (t32_14:Int) (x_10:Int) (x_11:(List (Int×aE))) (x_12:(List (List Int))) (v_15:Value) (story_9:(List (List Int))) (out_13:(List Int)) (story_16:(List (List Int))) (x_17:Int) (x_18:(List (Int×aE))) (x_19:(List (List Int))) (out_20:(List Int)):Out (Option PS×bB) :=
 Cp (ah kn) jT N fuel (sl) Tryz.f24 true false ch [1,1,1,1,0,1,0,n_L51_0,1,1,0,0,1,0,1,1,0] ys_22 [U,U,U,U,.box [.d be story_9],U,U,U,.box [.d (.int .i64) x_10,.d ba x_11,.d be x_12],.box [.own (.int .i64) out_13 false],U,.d (.int .i64) (List.getD x.2.2.1 t32_14.toNat (0:Int)),U,U,U,U,U,U,U,U,U,U,U,U,U,U,U,U,U,U,.d (.list (.int .i64)) x.2.2.1,.d (.int .i64) (ae x.2.2.1),.d (.int .i64) t32_14,.d .bool true,.ref (.int .i64) (List.getD x.2.2.1 t32_14.toNat (0:Int)),.d (.int .i64) (List.getD x.2.2.1 t32_14.toNat (0:Int)),.d ef ((x_10,(x_11,())),(x_12,())),.d (.int .i64) (List.getD x.2.2.1 t32_14.toNat (0:Int)),.d .raw v_15,U,U,U,U,U,U,U,U,U,U,U,U,U,U,U,U,U,U] [U,U,U,U,.box [.d be story_16],U,U,U,.box [.d (.int .i64) x_17,.d ba x_18,.d be x_19],.box [.own (.int .i64) out_20 false],U,.d (.int .i64) (List.getD x.2.2.1 t32_14.toNat (0:Int)),U,U,U,U,U,U,U,U,U,U,U,U,U,U,U,U,U,U,.d (.list (.int .i64)) x.2.2.1,.d (.int .i64) (ae x.2.2.1),.d (.int .i64) t32_14,.d .bool true,.ref (.int .i64) (List.getD x.2.2.1 t32_14.toNat (0:Int)),.d (.int .i64) (List.getD x.2.2.1 t32_14.toNat (0:Int)),.d ef ((x_10,(x_11,())),(x_12,())),.d (.int .i64) (List.getD x.2.2.1 t32_14.toNat (0:Int)),.d .raw v_15,U,U,U,U,U,U,U,U,U,U,U,U,U,U,U,U,U,U]
def L51_0 (N:Nat) (n_L51_0:Nat) (x:jo) (story_9:(List (List Int))) (x_10:Int) (x_11:(List (Int×aE))) (x_12:(List (List Int))) (out_13:(List Int)) (t32_14:Int):Out (Option PS×bB) :=
 ev Tryz.prog HP (ah kn) jT N (sl) Tryz.f24 true false ch [1,1,1,1,0,1,0] n_L51_0 ((none:Option PS)) [U,U,U,U,.box [.d be story_9],U,U,U,.box [.d (.int .i64) x_10,.d ba x_11,.d be x_12],.box [.own (.int .i64) out_13 false],U,U,U,U,U,U,U,U,U,U,U,U,U,U,U,U,U,U,U,U,.d (.list (.int .i64)) x.2.2.1,.d (.int .i64) (ae x.2.2.1),.d (.int .i64) t32_14,U,U,U,U,U,U,U,U,U,U,U,U,U,U,U,U,U,U,U,U,U,U,U,U]
theorem R51_1_nil (N:Nat) (n_L51_0:Nat) (x:jo) (t32_14:Int) (x_10:Int) (x_11:(List (Int×aE))) (x_12:(List (List Int))) (v_15:Value) (story_9:(List (List Int))) (out_13:(List Int)) (story_16:(List (List Int))) (x_17:Int) (x_18:(List (Int×aE))) (x_19:(List (List Int))) (out_20:(List Int)):R51_1 N n_L51_0 [] x t32_14 x_10 x_11 x_12 v_15 story_9 out_13 story_16 x_17 x_18 x_19 out_20 =
 (L51_0 N n_L51_0 x story_16 x_17 x_18 x_19 out_20 (IntKind.i64.wrap (t32_14+1)):Out (Option PS×bB)):=by kernel_rfl
theorem R51_1_cons (N:Nat) (n_L51_0:Nat) (y_21:Int) (ys_22:List Int) (x:jo) (t32_14:Int) (x_10:Int) (x_11:(List (Int×aE))) (x_12:(List (List Int))) (v_15:Value) (story_9:(List (List Int))) (out_13:(List Int)) (story_16:(List (List Int))) (x_17:Int) (x_18:(List (Int×aE))) (x_19:(List (List Int))) (out_20:(List Int)):R51_1 N n_L51_0 (y_21 :: ys_22) x t32_14 x_10 x_11 x_12 v_15 story_9 out_13 story_16 x_17 x_18 x_19 out_20 =
 (bif (ax y_21 story_16.length) then bif (ax 0 story_16.length) then match f88 ((List.getD story_16 y_21.toNat []),((List.getD story_16 (0:Int).toNat []),())) with | .ret r_23=>(match r_23 with|true=>L51_0 N n_L51_0 x story_16 x_17 x_18 x_19 out_20 (IntKind.i64.wrap (t32_14+1))|false=>bif (bQ out_20 ([y_21]:List Int)) then R51_1 N n_L51_0 ys_22 x t32_14 x_10 x_11 x_12 v_15 story_9 out_13 story_16 x_17 x_18 x_19 (out_20++([y_21]:List Int)) else .fail) | .pan p_24=>.fail | .fail=>.fail else .fail else .fail:Out (Option PS×bB)):=by kernel_rfl
theorem L51_0_succ (N:Nat) (n_L51_0:Nat) (x:jo) (story_9:(List (List Int))) (x_10:Int) (x_11:(List (Int×aE))) (x_12:(List (List Int))) (out_13:(List Int)) (t32_14:Int):L51_0 N  (n_L51_0+1) x story_9 x_10 x_11 x_12 out_13 t32_14 =
 (match (decide (t32_14<(ae x.2.2.1))) with|true=>bif (ax t32_14 x.2.2.1.length) then eD fun (v_15:Value)=>bif (cK v_15 v_15 && (iI (⟨v_15,kE v_15,((x_10,(x_11,())),(x_12,())),(List.getD x.2.2.1 t32_14.toNat 0)⟩:PS) && true)) then R51_1 N n_L51_0 ((aF ((x_10,(x_11,())),(x_12,())).1 (List.getD x.2.2.1 t32_14.toNat 0))) x t32_14 x_10 x_11 x_12 v_15 story_9 out_13 story_9 x_10 x_11 x_12 out_13 else .fail else .fail|false=>bif (decide ((out_13:List Int).length<1000000000)) then .ret (((none:Option PS)),(((db out_13)),(0,()))) else .fail:Out (Option PS×bB)):=by kernel_rfl
def wJ (N:Nat) (x:jo):Out (Option PS×bB):=match f55 (x.1,()) with | .ret r_1=>(match (!r_1) with|true=>.ret (((none:Option PS)),([],(2,())))|false=>match im (x.1,(x.2.1,())) with | .ret r_3=>(match (!r_3) with|true=>.ret (((none:Option PS)),([],(2,())))|false=>match f85 (x.1,(x.2.2.1,())) with | .ret r_5=>(match (!r_5) with|true=>.ret (((none:Option PS)),([],(2,())))|false=>match f58 (x.1,()) with | .ret r_7=>L51_0 N N x x.2.1 r_7.1.1 r_7.1.2.1 r_7.2.1 [] 0 | .pan p=>.pan p | .fail=>.fail) | .pan p=>.pan p | .fail=>.fail) | .pan p=>.pan p | .fail=>.fail) | .pan p=>.pan p | .fail=>.fail
theorem Od (N:Nat) (x:jo):cD Tryz.prog HP (ah kn) jT N (sl) Tryz.f24 true false Cd ch ((none:Option PS)) x=wJ N x:=by kernel_rfl
def f51 (x:jo):Out bB:=dY (wJ fuel x)
def Vx:Spec:=⟨24,.call,Cd,ch,true,false,f51⟩
theorem Mv:am Tryz.prog Vx:=Es (H:=HP) (none:Option PS) mr mq (l:=kn) (fun sp hs=>(by simp only [kn,List.mem_cons,List.not_mem_nil,or_false] at hs;rcases hs with rfl|rfl|rfl|rfl|rfl<;>first|exact dh|exact sR|exact sV|exact fO|exact xX)) Tryz.func24 rfl (Li fun s sp hs=>.inl (by simp only [BW,List.mem_cons,List.not_mem_nil,or_false] at hs;rcases hs with rfl|rfl|rfl|rfl|rfl<;>first|exact dh|exact sR|exact sV|exact fO|exact xX)) jT fuel (Od fuel)
end Go.V
end
