/- Part. -/
import Derived.Test.YtmkbnifehdhbbabGreatDoorCI
import Derived.Test.YtmkbnifehdhbbabGreatDoorShelf
set_option linter.all false
noncomputable section
namespace Go.V
open Go.Proofs
open Go.RowKit (Below)
theorem HR {M:ai} {w w':World} {t:Ty} {v:Value} {r:t.den} (hb:Below w.heap.size w w') (hlt:∀ b o,M b o->b<w.heap.size) (h:∀ M',aw M' w' t v r):eA M w w' false false t v r :=
 ⟨M,fun _ _ h=>h,fun _ _ h=>.inl h,h M,fun b hb=>by simp [bP,bf] at hb⟩
theorem DX (w:World) (k:Nat) (os:Array Obj):Below w.heap.size w (Go.Sort.grow (w.drewN k) os):=by
 have h1:Below w.heap.size w (w.drewN k):=⟨rfl,rfl,rfl,Nat.le_refl _,fun _ _=>rfl⟩
 refine h1.trans ?_;refine ⟨rfl,rfl,rfl,by simp [Go.Sort.grow,World.drewN],fun i hi=>?_⟩;have:i<(w.drewN k).heap.size:=hi;simp only [Go.Sort.grow];rw [Array.getElem?_append_left this]
theorem te {P:Program} [Inv P] {sp:Spec} (hk:sp.kind = .call) (hp:∀ x p,sp.f x ≠ .pan p)
 (h:∀ (x:sp.arg.den) (M:ai) (w:World) (vs:Array Value) r,sp.f x = .ret r->Inv.I P w->bN M w sp.arg vs.toList x->(∀ b o,M b o->b<w.heap.size) ->
  Calls P sp.fn vs w fun e w'=>∃ v,e = .returned v/\Below w.heap.size w w'/\eA M w w' sp.multi sp.own sp.res v r):am P sp:=by
 unfold am;rw [hk];intro x M w vs hI hvs hlt;cases hx:sp.f x with
 | ret r=>exact h x M w vs r hx hI hvs hlt
 | pan p=>exact absurd hx (hp x p)
 | fail=>trivial
theorem sK {α:Type} {c:Bool} {x r:α} (h:(bif c then Out.ret x else .fail) = .ret r):c=true/\x=r:=by
 cases c with
 | true=>exact ⟨rfl,by cases h;rfl⟩
 | false=>cases h
theorem sJ {α:Type} {c:Bool} {x:α} (p:Value):(bif c then Out.ret x else .fail) ≠ .pan p:=by
 cases c<;>intro h<;>cases h
def P' (x:Int×Unit):Out (List UInt8):=bif decide (-9223372036854775808<=x.1) && decide (x.1<=9223372036854775807) then .ret (Lib.itoa x.1) else .fail
def uI:Spec:=⟨106,.call,.prod (.int .i64) .unit,.str,false,false,P'⟩
theorem xU:am Tryz.prog uI:=by
 refine te rfl (fun _ p=>sJ p) fun x M w vs r hr hI hvs hlt=>?_
 obtain ⟨v,rest,e1,⟨cs,e2,e3⟩,e4⟩:=hvs;have e5:cs=[.int .i64 x.1]:=e3;have e6:rest=[]:=e4;subst e5;subst e6;subst e2;have hvs':vs = #[.int .i64 x.1]:=by apply Array.ext';rw [e1];rfl
 subst hvs';obtain ⟨h,rfl⟩:=sK hr;simp only [Bool.and_eq_true,decide_eq_true_eq] at h;refine (Tryz.strconv_Itoa x.1 h.1 h.2 w hI.1).mono ?_;rintro e w' ⟨rfl,k,os,rfl⟩;exact ⟨_,rfl,DX w k os,HR (DX w k os) hlt fun M'=>⟨[_],rfl,rfl⟩⟩
theorem Ej {M:ai} {w:World} {b o:Nat} {v:Value} (h:gF M w b o [v]):w.cell? ⟨b,o,none⟩=some v:=(h 0 (by simp)).1
theorem zH {M:ai} {w:World} {e:Ty} {v:Value} {cs:List Value} {xs:List e.den} (h:v=aP (.list e) cs) (h2:af M w (.list e) cs xs):af M w (.list e) [v] xs:=by
 have h3:=h2;obtain ⟨a,cap,e1,_,_⟩:=h3;subst e1;subst h;exact h2
theorem Sr {M:ai} {w:World} {v:Value} {xs:List Int} (h:af M w (.list (.int .i64)) [v] xs):∃ a c,v = .slice a xs.length c/\xs.length<=c /\
 ∀ (j:Nat) x,xs[j]? = some x->∃ b o,a=some ⟨b,o,none⟩/\w.cell? ⟨b,o+j,none⟩=some (.int .i64 x):=by
 obtain ⟨a,cap,e,hle,h3⟩:=h;cases e;refine ⟨a,cap,rfl,hle,fun j x hx=>?_⟩;obtain ⟨hj,hx'⟩:=List.getElem?_eq_some_iff.1 hx;obtain ⟨b,o,ec,e1,e2,e3,e4⟩:=h3 j hj;have e5:ec=[.int .i64 xs[j]]:=e4;subst e5;have:=Ej e3;refine ⟨b,o,e1,?_⟩;rw [hx'] at this
 simpa [Ty.size] using this
theorem UZ {cur:Array Value} {xs:List Int} (htk:cur.toList.take (xs.length * 1)=xs.map (Value.int .i64)) {i:Nat} (hi:i<xs.length):cur[i]? = some (.int .i64 (xs[i])):=by
 have:=congrArg (·[i]?) htk;simp only [Nat.mul_one] at this;rw [List.getElem?_take_of_lt hi,List.getElem?_map,List.getElem?_eq_getElem hi] at this
 simpa using this
theorem Ss {M:ai} {w:World} {v:Value} {xs:List (List UInt8)} (h:af M w (.list .str) [v] xs):∃ a c,v = .slice a xs.length c/\xs.length<=c /\
 ∀ (j:Nat) x,xs[j]? = some x->∃ b o,a=some ⟨b,o,none⟩/\w.cell? ⟨b,o+j,none⟩=some (.string ⟨⟨x⟩⟩):=by
 obtain ⟨a,cap,e,hle,h3⟩:=h;cases e;refine ⟨a,cap,rfl,hle,fun j x hx=>?_⟩;obtain ⟨hj,hx'⟩:=List.getElem?_eq_some_iff.1 hx;obtain ⟨b,o,ec,e1,e2,e3,e4⟩:=h3 j hj;have e5:ec=[.string ⟨⟨xs[j]⟩⟩]:=e4;subst e5;have:=Ej e3;refine ⟨b,o,e1,?_⟩;rw [hx'] at this
 simpa [Ty.size] using this
theorem RM {M:ai} {w:World} {v:Value} {xs:List (List UInt8)} {sep:List UInt8} (h:af M w (.list .str) [v] xs) (h1:xs.length<1000000) (h2:(Lib.join xs sep).length<1000000) :
 Calls Tryz.prog 107 #[v,.string ⟨⟨sep⟩⟩] w fun e w'=>e = .returned (.string ⟨⟨Lib.join xs sep⟩⟩)/\Below w.heap.size w w':=by
 obtain ⟨a,c,rfl,hc,hcells⟩:=Ss h;cases hx:xs with
 | nil =>
  refine (Tryz.strings_Join_none a c ⟨⟨sep⟩⟩ w).mono ?_;rintro e w' ⟨rfl,rfl⟩;exact ⟨rfl,Below.refl _ _⟩
 | cons y ys =>
  rw [<- hx];obtain ⟨b,o,ea,hc0⟩:=hcells 0 y (by rw [hx];rfl);subst ea;have hmap:(xs.map fun l=>(⟨⟨l⟩⟩:ByteArray)).map (·.data.toList)=xs:=by rw [List.map_map];exact List.map_id xs
  have:=Tryz.strings_Join b o c (xs.map fun l=>(⟨⟨l⟩⟩:ByteArray)) ⟨⟨sep⟩⟩ w (fun j z hz=>by
   rw [List.getElem?_map] at hz;cases hj:xs[j]? with
   | none=>rw [hj] at hz;cases hz
   | some l =>
    rw [hj] at hz;cases hz;obtain ⟨b',o',e,hc'⟩:=hcells j l hj;cases e;exact hc') (World.block_lt_of_cell? w _ hc0) (by rw [List.length_map];omega) (by rw [List.length_map];exact hc) (by rw [hmap];show (Lib.join xs sep).length<=_;omega)
  rw [List.length_map,hmap] at this;refine this.mono ?_;rintro e w' ⟨rfl,hb⟩;exact ⟨rfl,hb⟩
def f132 (x:List (List UInt8)×List UInt8×Unit):Out (List UInt8) :=
 bif decide (x.1.length<1000000) && decide ((Lib.join x.1 x.2.1).length<1000000) then .ret (Lib.join x.1 x.2.1) else .fail
def Iv:Spec:=⟨107,.call,.prod (.list .str) (.prod .str .unit),.str,false,false,f132⟩
theorem LW:am Tryz.prog Iv:=by
 refine te rfl (fun _ p=>sJ p) fun x M w vs r hr hI hvs hlt=>?_
 obtain ⟨v,rest,e1,⟨cs,e2,e3⟩,v2,rest2,e4,⟨cs2,e5,e6⟩,e7⟩:=hvs;have e8:cs2=[.string ⟨⟨x.2.1⟩⟩]:=e6;have e9:rest2=[]:=e7;have e3:af M w (.list .str) [v] x.1:=zH e2 e3;subst e8;subst e9;subst e5;have hvs':vs = #[v,.string ⟨⟨x.2.1⟩⟩]:=by apply Array.ext';rw [e1,e4];rfl
 subst hvs';obtain ⟨h,rfl⟩:=sK hr;simp only [Bool.and_eq_true,decide_eq_true_eq] at h;refine (RM e3 h.1 h.2).mono ?_;rintro e w' ⟨rfl,hb⟩;exact ⟨_,rfl,hb,HR hb hlt fun M'=>⟨[_],rfl,rfl⟩⟩
def V3 (s sep:List UInt8):List (List UInt8):=(Lib.splitB ⟨⟨sep⟩⟩ 0 (Lib.countB ⟨⟨s⟩⟩ ⟨⟨sep⟩⟩) ⟨⟨s⟩⟩).map (·.data.toList)
theorem UY {M:ai} {w:World} {l:List ByteArray} {n:Nat} (hlt:∀ b o,M b o->b<w.heap.size) (hn:l.length=n) :
 eA M w (w.alloc (.cells (l.map Value.string).toArray 9)) false false (.list .str) (.slice (some ⟨w.heap.size,0,none⟩) n n) (l.map (·.data.toList)):=by
 subst hn;refine ⟨M,fun _ _ h=>h,fun _ _ h=>.inl h,⟨[_],rfl,some ⟨w.heap.size,0,none⟩,l.length,?_,?_,fun i hi=>?_⟩,fun b hb=>?_⟩
 . exact congrArg (fun m=>[Value.slice (some ⟨w.heap.size,0,none⟩) m l.length]) (List.length_map ..).symm
 . exact Nat.le_of_eq (List.length_map ..)
 . have hi':i<l.length:=by have h:i<List.length (l.map (·.data.toList)):=hi;rwa [List.length_map] at h
   refine ⟨w.heap.size,0,[.string l[i]],rfl,rfl,fun j hj=>?_,?_⟩
   . have hj0:j=0:=by simpa using hj
     subst hj0;refine ⟨?_,fun hM=>absurd (hlt _ _ hM) (Nat.lt_irrefl _)⟩;rw [World.cell?_alloc_new];simp [Ty.size,hi']
   . have:(l.map (·.data.toList))[i]'(by rw [List.length_map];exact hi')=l[i].data.toList:=List.getElem_map ..;show [Value.string l[i]]=[.string ⟨⟨(l.map (·.data.toList))[i]'(by rw [List.length_map];exact hi')⟩⟩]
     rw [this]
 . cases hb
def f112 (x:List UInt8×List UInt8×Unit):Out (List (List UInt8)) :=
 bif decide (x.1.length<1000000) && decide (1<=x.2.1.length) && decide ((Lib.splitB ⟨⟨x.2.1⟩⟩ 0 (Lib.countB ⟨⟨x.1⟩⟩ ⟨⟨x.2.1⟩⟩) ⟨⟨x.1⟩⟩).length=Lib.countB ⟨⟨x.1⟩⟩ ⟨⟨x.2.1⟩⟩+1) then .ret (V3 x.1 x.2.1) else .fail
def Ip:Spec:=⟨109,.call,.prod .str (.prod .str .unit),.list .str,false,false,f112⟩
theorem D6:am Tryz.prog Ip:=by
 refine te rfl (fun _ p=>sJ p) fun x M w vs r hr hI hvs hlt=>?_
 obtain ⟨v,rest,e1,⟨cs,e2,e3⟩,v2,rest2,e4,⟨cs2,e5,e6⟩,e7⟩:=hvs;have e8:cs2=[.string ⟨⟨x.2.1⟩⟩]:=e6;have e9:rest2=[]:=e7;have e10:cs=[.string ⟨⟨x.1⟩⟩]:=e3;subst e8;subst e9;subst e5;subst e10;subst e2;have hvs':vs = #[.string ⟨⟨x.1⟩⟩,.string ⟨⟨x.2.1⟩⟩]:=by apply Array.ext';rw [e1,e4];rfl
 subst hvs';obtain ⟨h,rfl⟩:=sK hr;simp only [Bool.and_eq_true,decide_eq_true_eq] at h;obtain ⟨⟨h1,h2⟩,h3⟩:=h;obtain ⟨m,hm⟩:=hI.2;refine (Tryz.strings_Split ⟨⟨x.1⟩⟩ ⟨⟨x.2.1⟩⟩ m w (by show x.1.length<_;omega) hm h2).mono ?_;rintro e w' ⟨rfl,rfl⟩;exact ⟨_,rfl,(Below.refl _ _).alloc (Nat.le_refl _) _,UY hlt h3⟩
theorem UX {M:ai} {w w':World} {v:Value} {xs:List Int} (hlt:∀ b o,M b o->b<w.heap.size) (h:w'.ownsRow w.heap.size 3 1 v xs.length (xs.map (Value.int .i64))):eA M w w' false true (.list (.int .i64)) v xs:=by
 obtain ⟨hl,h⟩:=h;rcases h with ⟨rfl,h⟩|⟨g,cap,cur,rfl,hg,hc,hle,hmax,hsz,htk⟩
 . have:xs=[]:=List.eq_nil_of_length_eq_zero h;subst this;exact ⟨M,fun _ _ h=>h,fun _ _ h=>.inl h,⟨⟨none,0,rfl,Nat.le_refl _,fun i hi=>absurd hi (Nat.not_lt_zero _)⟩,.inl ⟨rfl,rfl⟩⟩,fun b _ hb=>by simp [ag] at hb⟩
 . have hglt:g<w'.heap.size:=(Array.getElem?_eq_some_iff.1 hc).1;refine ⟨fun b o=>M b o\/(b=g/\xs.length<=o),fun _ _ h=>.inl h,fun b o h=>?_,⟨⟨some ⟨g,0,none⟩,cap,rfl,hle,fun i hi=>?_⟩,.inr ⟨g,cap,cur,3,rfl,hc,hle,hmax,hsz,fun o ho=>.inr ⟨rfl,(by have h:xs.length * 1<=o:=ho;omega)⟩⟩⟩,fun b _ hb=>?_⟩
   . rcases h with h|⟨rfl,h⟩
     . exact .inl h
     . exact .inr ⟨hg,hglt⟩
   . refine ⟨g,0,[.int .i64 xs[i]],rfl,rfl,fun j hj=>?_,rfl⟩;have hj0:j=0:=by simpa using hj
     subst hj0;have hcu:=UZ htk hi;refine ⟨?_,?_⟩
     . have:=cell_of_row w' g i cur 3 (0,0) hc;simp only [Ty.size,Nat.mul_one,Nat.zero_add,Nat.add_zero];rw [this,hcu];rfl
     . rintro (hM|⟨_,ho⟩)
       . have:=hlt _ _ hM;omega
       . have h1:xs.length<=0+i * 1+0:=ho;have h2:i<List.length (α:=Int) xs:=hi;omega
   . simp [ag] at hb;subst hb;exact hg
theorem M8 {M:ai} {w:World} {v:Value} {xs:List Int} (h:af M w (.list (.int .i64)) [v] xs) (hn:xs.length<1000000) :
 Calls Tryz.prog 117 #[v] w fun e w'=>∃ v',e = .returned v'/\w'.ownsRow w.heap.size 3 1 v' xs.length (xs.map (Value.int .i64))/\Below w.heap.size w w':=by
 obtain ⟨a,cap,rfl,hle,h3⟩:=Sr h;cases a with
 | none =>
  have hx:xs=[]:=by
   cases xs with
   | nil=>rfl
   | cons y ys=>obtain ⟨b,o,e1,_⟩:=h3 0 y rfl;cases e1
  subst hx;refine (Tryz.slices_Clone_int_nil 0 cap w).mono ?_;rintro e w' ⟨rfl,rfl⟩;exact ⟨_,rfl,World.ownsRow_nil _ _ _ _,Below.refl _ _⟩
 | some a =>
  cases hx:xs with
  | nil =>
   refine (Tryz.slices_Clone_int_zero a cap w).mono ?_;rintro e w' ⟨v',rfl,h1,_,h2⟩;exact ⟨_,rfl,h1,h2⟩
  | cons y ys =>
   rw [<- hx];obtain ⟨b,o,e1,_⟩:=h3 0 y (by rw [hx];rfl);cases e1;refine (Tryz.slices_Clone_int b o xs.length cap xs w (Nat.le_refl _) (by omega) fun j hj=>?_).mono ?_
   . obtain ⟨b',o',e1,e2⟩:=h3 j xs[j] (List.getElem?_eq_getElem hj);cases e1;rw [List.getD_eq_getElem?_getD,List.getElem?_eq_getElem hj];exact e2
   . rintro e w' ⟨v',rfl,h1,_,h2⟩;rw [List.take_length] at h1;exact ⟨_,rfl,h1,h2⟩
def mN (x:List Int×Unit):Out (List Int):=bif decide (x.1.length<1000000) then .ret x.1 else .fail
def AW:Spec:=⟨117,.call,.prod (.list (.int .i64)) .unit,.list (.int .i64),false,true,mN⟩
theorem M9 {x:List Int×Unit} {r:List Int} {M:ai} {w:World} {vs:Array Value} {multi:Bool} (hr:mN x = .ret r) (hvs:bN M w jC vs.toList x)
 (hres:∀ (w':World) v',w'.ownsRow w.heap.size 3 1 v' x.1.length (x.1.map (Value.int .i64))->eA M w w' multi true (.list (.int .i64)) v' x.1) :
 Calls Tryz.prog 117 vs w fun e w'=>∃ v,e = .returned v/\Below w.heap.size w w'/\eA M w w' multi true (.list (.int .i64)) v r:=by
 obtain ⟨h,rfl⟩:=sK hr;obtain ⟨v,rest,e1,⟨cs,e2,e3⟩,e4⟩:=hvs;have e6:rest=[]:=e4;subst e6;have e3:af M w (.list (.int .i64)) [v] x.1:=zH e2 e3;have hvs':vs = #[v]:=by apply Array.ext';rw [e1]
 subst hvs';simp only [decide_eq_true_eq] at h;refine (M8 e3 h).mono ?_;rintro e w' ⟨v',rfl,h1,h2⟩;exact ⟨v',rfl,h2,hres w' v' h1⟩
theorem D4:am Tryz.prog AW:=te rfl (fun _ p=>sJ p) fun _ _ _ _ _ hr _ hvs hlt=>M9 hr hvs fun _ _ h=>UX hlt h
end Go.V
end
