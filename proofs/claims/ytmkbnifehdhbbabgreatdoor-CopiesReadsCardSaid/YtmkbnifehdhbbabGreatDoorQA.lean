/- Part. -/
import Derived.Test.YtmkbnifehdhbbabGreatDoorCV
import Derived.Test.YtmkbnifehdhbbabGreatDoorC1
set_option linter.all false
noncomputable section
namespace Go.V
def bg:Nat->(Nat->Int)->Int
 | 0,_=>0
 | n+1,f=>bg n f+f n
theorem oq {n:Nat} {f g:Nat->Int} (h:∀ i,i<n->f i=g i):bg n f=bg n g:=by
 induction n with
 | zero=>rfl
 | succ n ih=>simp only [bg];rw [ih fun i hi=>h i (by omega),h n (by omega)]
theorem u7 (n:Nat) (f g:Nat->Int):bg n (fun i=>f i+g i)=bg n f+bg n g:=by
 induction n with
 | zero=>rfl
 | succ n ih=>simp only [bg];rw [ih];omega
theorem or {n:Nat} {f:Nat->Int} (h:∀ i,i<n->0<=f i):0<=bg n f:=by
 induction n with
 | zero=>exact Int.le_refl 0
 | succ n ih =>
  simp only [bg];have:=ih fun i hi=>h i (by omega)
  have:=h n (by omega);omega
theorem Wa {n:Nat} {f g:Nat->Int} (h:∀ i,i<n->f i<=g i):bg n f<=bg n g:=by
 induction n with
 | zero=>exact Int.le_refl 0
 | succ n ih =>
  simp only [bg];have:=ih fun i hi=>h i (by omega)
  have:=h n (by omega);omega
theorem V_ {n:Nat} {f g:Nat->Int} (h:∀ i,i<n->f i<=g i) {k:Nat} (hk:k<n) (hlt:f k<g k):bg n f<bg n g:=by
 induction n with
 | zero=>omega
 | succ n ih =>
  simp only [bg];have h1:=h n (by omega)
  by_cases e:k=n
  . subst e;have:=Wa (n:=k) fun i hi=>h i (by omega)
    omega
  . have:=ih (fun i hi=>h i (by omega)) (by omega);omega
theorem B5 {n:Nat} {f:Nat->Int} (h:∀ i,i<n->0<=f i) {k:Nat} (hk:k<n):f k<=bg n f:=by
 induction n with
 | zero=>omega
 | succ n ih =>
  simp only [bg];have h1:=h n (by omega)
  by_cases e:k=n
  . subst e;have:=or (n:=k) fun i hi=>h i (by omega)
    omega
  . have:=ih (fun i hi=>h i (by omega)) (by omega);omega
theorem Jt {n:Nat} {f:Nat->Int} (h:∀ i,i<n->0<=f i) (h0:bg n f=0):∀ i,i<n->f i=0:=fun i hi=>by
 have:=B5 h hi;have:=h i hi;omega
theorem oo {n:Nat} {f:Nat->Int} (h:∀ i,i<n->f i=0):bg n f=0:=by
 induction n with
 | zero=>rfl
 | succ n ih=>simp only [bg];rw [ih fun i hi=>h i (by omega),h n (by omega)];rfl
theorem Jr {n:Nat} {f:Nat->Int} (h:∀ i,i<n->f i<=1):bg n f<=n:=by
 induction n with
 | zero=>exact Int.le_refl 0
 | succ n ih =>
  simp only [bg];have:=ih fun i hi=>h i (by omega)
  have:=h n (by omega);omega
theorem Js {n p:Nat} {f:Nat->Int} {x:Int} (hp:p<n):bg n (fun r=>if r=p then f r+x else f r)=bg n f+x:=by
 induction n with
 | zero=>omega
 | succ n ih =>
  simp only [bg]
  by_cases e:p=n
  . subst e;rw [if_pos rfl,oq (g:=f) fun i hi=>if_neg (by omega)];omega
  . rw [ih (by omega),if_neg (by omega)];omega
theorem V' {n:Nat} (h:0<n) (x:Int):bg n (fun i=>if i=0 then x else 0)=x:=by
 have:=Js (n:=n) (p:=0) (f:=fun _=>0) (x:=x) h;rw [oo (f:=fun _=>(0:Int)) fun _ _=>rfl] at this;refine Eq.trans (oq fun i _=>?_) (this.trans (by omega));split<;>omega
theorem qw:∀ {l:List Int},(∀ x∈l,0<=x)->0<=l.sum
 | [],_=>Int.le_refl 0
 | x :: l,h=>by
  rw [List.sum_cons];have:=h x (by simp);have:=qw (l:=l) fun y hy=>h y (by simp [hy])
  omega
theorem GE:∀ {l:List Int},(∀ x∈l,0<=x)->∀ {y:Int},y∈l->y<=l.sum
 | [],_,_,hy=>by cases hy
 | x :: l,h,y,hy=>by
  rw [List.sum_cons];have h1:=h x (by simp);have h2:=qw (l:=l) fun y hy=>h y (by simp [hy])
  rcases List.mem_cons.1 hy with rfl|hy
  . omega
  . have:=GE (l:=l) (fun y hy=>h y (by simp [hy])) hy;omega
def dN (f:Nat->Int):Nat->Int
 | 0=>f 0
 | k+1=>if f (k+1)<dN f k then f (k+1) else dN f k
theorem zQ (f:Nat->Int):∀ (k j:Nat),j<=k->dN f k<=f j
 | 0,j,h=>by
  obtain rfl:j=0:=by omega
  exact Int.le_refl _
 | k+1,j,h=>by
  unfold dN
  by_cases e:j=k+1
  . subst e;split<;>omega
  . have:=zQ f k j (by omega);split<;>omega
theorem uf (f:Nat->Int):∀ (k:Nat),∃ j,j<=k/\dN f k=f j
 | 0=>⟨0,Nat.le_refl _,rfl⟩
 | k+1=>by
  unfold dN;obtain ⟨j,h1,h2⟩:=uf f k;split
  . exact ⟨k+1,Nat.le_refl _,rfl⟩
  . exact ⟨j,by omega,h2⟩
def f_ (f:Int->Int->Int) (c g p:Int):Int:=f c g+(if g=p then 0 else 1)
def da (f:Int->Int->Int) (c p:Int):Int:=dN (fun g=>f_ f c (g:Int) p) 9
def LU (d:TR) (place:Int):Nat->Int->Int->Int
 | 0=>fun _ _=>0
 | n+1=>fun fr fg=>(if cv d.1 place fr fg then 0 else 1000)+((d.2.1.getD fr.toNat []).map fun c=>da (LU d place n) c fg).sum
def LT (d:TR) (place fr fg:Int):Int:=LU d place d.1.2.1.length fr fg
def cap (x:Int):Int:=if x<1000 then x else 1000
theorem yB {f:Int->Int->Int} {c p:Int} (h:∀ g,0<=f c g):0<=da f c p:=by
 obtain ⟨j,_,e⟩:=uf (fun g=>f_ f c (g:Int) p) 9;unfold da;rw [e];unfold f_;have:=h j;split<;>omega
theorem sd (d:TR) (place:Int):∀ (n:Nat) (fr fg:Int),0<=LU d place n fr fg
 | 0,_,_=>Int.le_refl 0
 | n+1,fr,fg=>by
  unfold LU;have:=qw (l:=(d.2.1.getD fr.toNat []).map fun c=>da (LU d place n) c fg) fun x hx=>by
   obtain ⟨c,_,rfl⟩:=List.mem_map.1 hx;exact yB fun g=>sd d place n c g
  split<;>omega
theorem xl (d:TR) (place fr fg:Int):0<=LT d place fr fg:=sd d place _ fr fg
theorem FC:∀ (l:List Int) (n:Int),0<=n->n<=1000->(∀ x∈l,0<=x)->l.foldl (fun n x=>if n+x<1000 then n+x else 1000) n=cap (n+l.sum)
 | [],n,h0,h1,_=>by
  simp only [List.foldl_nil,List.sum_nil];unfold cap;split<;>omega
 | x :: l,n,h0,h1,hx=>by
  have hx0:=hx x (by simp);have hl:=qw (l:=l) fun y hy=>hx y (by simp [hy])
  rw [List.foldl_cons,FC l _ (by split<;>omega) (by split<;>omega) fun y hy=>hx y (by simp [hy]),List.sum_cons];unfold cap;split<;>split<;>(try split)<;>omega
theorem Ju {l:List Int} (h:∀ x∈l,0<=x):jz l=cap l.sum:=by
 unfold jz;rw [FC l 0 (by omega) (by omega) h,Int.zero_add]
theorem kG {x:Int} (h:0<=x):0<=cap x:=by unfold cap;split<;>omega
theorem ye {f:Int->Int}:∀ (l:List Int) (a:Int),0<=a->(∀ c∈l,0<=f c)->cap (cap a+(l.map fun c=>cap (f c)).sum)=cap (a+(l.map f).sum)
 | [],a,ha,_=>by simp only [List.map_nil,List.sum_nil];unfold cap;split<;>split<;>omega
 | c :: l,a,ha,h=>by
  have hc:=h c (by simp);have h1:=ye (f:=f) l (a+f c) (by omega) fun x hx=>h x (by simp [hx])
  have h2:=ye (f:=f) l (cap a+cap (f c)) (by have:=kG ha;have:=kG hc;omega) fun x hx=>h x (by simp [hx])
  have hl:=qw (l:=l.map fun c=>cap (f c)) fun x hx=>by
   obtain ⟨c,hc,rfl⟩:=List.mem_map.1 hx;exact kG (h c (by simp [hc]))
  simp only [List.map_cons,List.sum_cons];rw [<- Int.add_assoc,<- Int.add_assoc,<- h1];have e:cap (cap a+cap (f c))=cap (a+f c):=by
   unfold cap;split<;>split<;>split<;>(try split)<;>omega
  rw [<- e]
  revert hl
  generalize (l.map fun c=>cap (f c)).sum=z;intro hl;have ha':=kG ha;have hc':=kG hc;generalize cap a+cap (f c)=y at *;unfold cap;split<;>split<;>(try split)<;>omega
theorem Jh {f u:Int->Int->Int} {c g p:Int} (hu:0<=u c g) (h:f c g=cap (u c g)):dc f c g p=cap (f_ u c g p):=by
 unfold dc f_;split
 . rw [h,Int.add_zero]
 . rw [Ju (by intro x hx;rw [h] at hx;have:=kG hu;simp at hx;omega),h];simp only [List.sum_cons,List.sum_nil];unfold cap;split<;>split<;>(try split)<;>omega
theorem yC {s u:Nat->Int}:∀ (k:Nat),(∀ g,g<=k->s g=cap (u g))->(List.range (k+1)).foldl (fun n g=>if s g<n then s g else n) 1000=cap (dN u k)
 | 0,h=>by
  rw [List.range_succ,List.range_zero];simp only [List.nil_append,List.foldl_cons,List.foldl_nil];rw [h 0 (Nat.le_refl _)];unfold dN cap;split<;>(try split)<;>omega
 | k+1,h=>by
  rw [List.range_succ,List.foldl_append,yC k fun g hg=>h g (by omega)];simp only [List.foldl_cons,List.foldl_nil];rw [h (k+1) (Nat.le_refl _)];simp only [dN];unfold cap;split<;>split<;>(try split)<;>(try split)<;>omega
theorem Fq {f u:Int->Int->Int} {c p:Int} (hu:∀ g:Nat,0<=u c g) (h:∀ g:Nat,f c g=cap (u c g)):cW f c p=cap (da u c p):=by
 unfold cW da;exact yC 9 fun g _=>Jh (hu g) (h g)
theorem Gz (d:TR) (place:Int):∀ (n:Nat) (fr fg:Int),eE d place n fr fg=cap (LU d place n fr fg)
 | 0,_,_=>by unfold eE LU cap;rfl
 | n+1,fr,fg=>by
  unfold eE LU;have e:((d.2.1.getD fr.toNat []).map fun c=>cW (eE d place n) c fg)=(d.2.1.getD fr.toNat []).map fun c=>cap (da (LU d place n) c fg) :=
   List.map_congr_left fun c _=>Fq (fun g=>sd d place n c g) fun g=>Gz d place n c g
  have hn:∀ c:Int,0<=da (LU d place n) c fg:=fun c=>yB fun g=>sd d place n c g
  rw [e];rw [Ju]
  . rw [List.sum_append];have h1:=ye (f:=fun c=>da (LU d place n) c fg) (d.2.1.getD fr.toNat []) (if cv d.1 place fr fg then 0 else 1000) (by split<;>omega) fun c _=>hn c
    rw [<- h1]
    congr 2
    split<;>simp [cap]
  . intro x hx;rcases List.mem_append.1 hx with hx|hx
    . split at hx
      . cases hx
      . rw [List.mem_singleton] at hx;omega
    . obtain ⟨c,_,rfl⟩:=List.mem_map.1 hx;exact kG (hn c)
theorem se (d:TR) (place fr fg:Int):LV d place fr fg=cap (LT d place fr fg):=Gz d place _ fr fg
theorem Q3 {f f':Int->Int->Int} {c:Int} (h:∀ g:Int,f c g=f' c g) (p:Int):da f c p=da f' c p:=by
 unfold da f_;simp only [h]
theorem KY {d:TR} {place:Int} (hd:RdOK d place):∀ (m n:Nat) (fr:Int) (fg:Int),0<=fr->fr<d.1.2.1.length->(d.1.2.1.length:Int) - fr<=m->(d.1.2.1.length:Int) - fr<=n->LU d place m fr fg=LU d place n fr fg:=by
 intro m
 induction m with
 | zero=>intro n fr fg h0 h h1;omega
 | succ m ih =>
  intro n fr fg h0 h h1 h2;cases n with
  | zero=>omega
  | succ n =>
   have hk:=(hd.kids fr.toNat (by omega)).2;have e:((d.2.1.getD fr.toNat []).map fun c=>da (LU d place m) c fg)=(d.2.1.getD fr.toNat []).map fun c=>da (LU d place n) c fg:=by
    apply List.map_congr_left;intro c hc;have:=hk c hc;exact Q3 (fun g=>ih n c g (by omega) (by omega) (by omega) (by omega)) fg
   simp only [LU];rw [e]
theorem Dp {d:TR} {place:Int} (hd:RdOK d place) {fr fg:Int} (h0:0<=fr) (h:fr<d.1.2.1.length) :
 LT d place fr fg=(if cv d.1 place fr fg then 0 else 1000)+((d.2.1.getD fr.toNat []).map fun c=>da (LT d place) c fg).sum:=by
 have e:LT d place fr fg=LU d place (d.1.2.1.length+1) fr fg:=KY hd _ _ fr fg h0 h (by omega) (by omega);rw [e];rfl
def aZ (t:ac) (i:Nat):Nat:=(bC t i).toNat
def fF (t:ac) (l:List Int):Int:=bg t.2.1.length fun i=>if i=0 then 0 else if l.getD i 0=l.getD (aZ t i) 0 then 0 else 1
def jE (t:ac) (place:Int) (l:List Int):Int:=bg t.2.1.length fun i=>if cv t place i (l.getD i 0) then 0 else 1000
def d_ (d:TR) (place:Int) (l:List Int) (i:Nat):Int:=if i=0 then 0 else f_ (LT d place) i (l.getD i 0) (l.getD (aZ d.1 i) 0) - da (LT d place) i (l.getD (aZ d.1 i) 0)
structure KidsOK (d:TR):Prop where
 own:∀ i,i<d.1.2.1.length->∀ c∈d.2.1.getD i [],0<c/\c<d.1.2.1.length/\aZ d.1 c.toNat=i
 mem:∀ c:Nat,0<c->c<d.1.2.1.length->(c:Int)∈d.2.1.getD (aZ d.1 c) []
 sum:∀ G:Int->Int,bg d.1.2.1.length (fun i=>((d.2.1.getD i []).map G).sum)=bg d.1.2.1.length fun c=>if c=0 then 0 else G c
theorem B8 {d:TR} {place:Int} (hd:RdOK d place) (hk:KidsOK d) (hn:0<d.1.2.1.length) (l:List Int) :
 fF d.1 l+jE d.1 place l=LT d place 0 (l.getD 0 0)+bg d.1.2.1.length (d_ d place l):=by
 obtain ⟨G,hG⟩:∃ G:Int->Int,G=fun c=>da (LT d place) c (l.getD (aZ d.1 c.toNat) 0):=⟨_,rfl⟩
 have h1:bg d.1.2.1.length (fun i=>LT d place i (l.getD i 0))=jE d.1 place l+bg d.1.2.1.length (fun c=>if c=0 then 0 else G c):=by
  rw [<- hk.sum G];unfold jE;rw [<- u7];refine oq fun i hi=>?_
  rw [Dp hd (by omega) (by omega),Int.toNat_natCast]
  congr 2
  refine List.map_congr_left fun c hc=>?_
  rw [hG]
  try dsimp only
  rw [(hk.own i hi c hc).2.2]
 have h2:bg d.1.2.1.length (fun i=>d_ d place l i+(if i=0 then 0 else G i))+bg d.1.2.1.length (fun i=>if i=0 then LT d place 0 (l.getD 0 0) else 0) =
  bg d.1.2.1.length (fun i=>LT d place i (l.getD i 0))+fF d.1 l:=by
  unfold fF;rw [<- u7,<- u7];refine oq fun i hi=>?_
  unfold d_ f_
  by_cases e:i=0
  . subst e;simp
  . simp only [if_neg e,hG,Int.toNat_natCast];split<;>omega
 rw [u7,V' hn] at h2;omega
theorem If (d:TR) (place:Int) {l:List Int} {i:Nat} (h:0<=l.getD i 0/\l.getD i 0<=9):0<=d_ d place l i:=by
 unfold d_;split
 . omega
 . have:=zQ (fun g=>f_ (LT d place) i (g:Int) (l.getD (aZ d.1 i) 0)) 9 (l.getD i 0).toNat (by omega)
   try dsimp only at this
   rw [Int.toNat_of_nonneg h.1] at this;unfold da;omega
theorem yj {t:ac} (l:List Int):fF t l<=t.2.1.length:=Jr fun i _=>by split<;>(try split)<;>omega
theorem ym {t:ac} (l:List Int):0<=fF t l:=or fun i _=>by split<;>(try split)<;>omega
theorem Wk {t:ac} {place:Int} (l:List Int):0<=jE t place l:=or fun i _=>by split<;>omega
structure VC (t:ac) (place:Int) (l:List Int):Prop where
 len:l.length=t.2.1.length
 fig:∀ x∈l,0<=x/\x<=9
 fit:∀ i:Nat,i<t.2.1.length->cv t place i (l.getD i 0)=true
structure Best (t:ac) (place:Int) (l:List Int):Prop where
 vc:VC t place l
 few:∀ l',VC t place l'->fF t l<=fF t l'
theorem VC.at {t:ac} {place:Int} {l:List Int} (h:VC t place l) {i:Nat} (hi:i<t.2.1.length):0<=l.getD i 0/\l.getD i 0<=9:=h.fig _ (jh (by rw [h.len];exact hi))
theorem rO {t:ac} {place:Int} {l:List Int}:jE t place l=0<->∀ i:Nat,i<t.2.1.length->cv t place i (l.getD i 0)=true:=by
 constructor
 . intro h i hi;have:=Jt (n:=t.2.1.length) (fun i _=>by split<;>omega) h i hi
   try dsimp only at this
   split at this
   . assumption
   . omega
 . intro h;exact oo fun i hi=>if_pos (h i hi)
theorem JR {t:ac} {place:Int} {l:List Int} (h:jE t place l≠0):1000<=jE t place l:=by
 obtain ⟨i,hi,hf⟩:∃ i:Nat,i<t.2.1.length/\cv t place i (l.getD i 0)≠true:=by
  refine Classical.byContradiction fun hc=>h (rO.2 fun i hi=>Classical.byContradiction fun hf=>hc ⟨i,hi,hf⟩)
 have:=B5 (n:=t.2.1.length) (f:=fun i=>if cv t place i (l.getD i 0) then 0 else 1000) (fun i _=>by split<;>omega) hi
 try dsimp only at this
 rw [if_neg hf] at this;exact this
theorem JF {d:TR} {place:Int} (hp:ParOK d.1):∀ (k:Nat),k<=d.1.2.1.length->∃ l:List Int,l.length=k/\(∀ x∈l,0<=x/\x<=9)/\(0<k->LT d place 0 (l.getD 0 0)=dN (fun g=>LT d place 0 g) 9)/\∀ i,i<k->d_ d place l i=0
 | 0,_=>⟨[],rfl,fun _ h=>(by cases h),fun h=>absurd h (Nat.lt_irrefl 0),fun i h=>by omega⟩
 | k+1,hk=>by
  obtain ⟨l,h1,h2,h3,h4⟩:=JF (place:=place) hp k (by omega);have hget:∀ (i:Nat) (x:Int),i<k->(l++[x]).getD i 0=l.getD i 0:=fun i x hi=>by
   rw [List.getD_eq_getElem?_getD,List.getD_eq_getElem?_getD,List.getElem?_append_left (by omega)]
  have hlast:∀ x:Int,(l++[x]).getD k 0=x:=fun x=>by
   rw [List.getD_eq_getElem?_getD,List.getElem?_append_right (by omega),h1,Nat.sub_self];rfl
  have hfig:∀ g:Nat,g<=9->∀ x∈l++[(g:Int)],0<=x/\x<=9:=fun g hg x hx=>by
   rcases List.mem_append.1 hx with hx|hx
   . exact h2 x hx
   . rw [List.mem_singleton] at hx;omega
  have hpar:∀ i,0<i->i<k+1->aZ d.1 i<i:=fun i hi hik=>by
   have:=hp.par i hi (by omega);unfold aZ;omega
  by_cases e:k=0
  . subst e;obtain ⟨g,hg,he⟩:=uf (fun g=>LT d place 0 g) 9;refine ⟨l++[(g:Int)],by simp [h1],hfig g hg,fun _=>by rw [hlast];exact he.symm,fun i hi=>?_⟩;obtain rfl:i=0:=by omega
    unfold d_;rw [if_pos rfl]
  . obtain ⟨g,hg,he⟩:=uf (fun g=>f_ (LT d place) k (g:Int) (l.getD (aZ d.1 k) 0)) 9;refine ⟨l++[(g:Int)],by simp [h1],hfig g hg,fun _=>by rw [hget 0 _ (by omega)];exact h3 (by omega),fun i hi=>?_⟩
    by_cases ei:i=k
    . subst ei;unfold d_;rw [if_neg e,hlast,hget _ _ (hpar i (by omega) (by omega))];unfold da;rw [he];omega
    . have:=h4 i (by omega);unfold d_ at this ⊢;split
      . rfl
      . rename_i e0;rw [if_neg e0] at this;rw [hget i _ (by omega),hget _ _ (by have:=hpar i (by omega) hi;omega)];exact this
theorem GQ {d:TR} {place:Int} {l:List Int} (h:0<=l.getD 0 0/\l.getD 0 0<=9):dN (fun g=>LT d place 0 g) 9<=LT d place 0 (l.getD 0 0):=by
 have:=zQ (fun g=>LT d place 0 g) 9 (l.getD 0 0).toNat (by omega)
 try dsimp only at this
 rwa [Int.toNat_of_nonneg h.1] at this
structure Ground (d:TR) (place:Int):Prop where
 rd:RdOK d place
 kids:KidsOK d
 par:ParOK d.1
 pos:0<d.1.2.1.length
 few:d.1.2.1.length<=8
 figs:∀ i:Nat,i<d.1.2.1.length -> -1<=aH d.1 i place/\aH d.1 i place<=9
theorem iq {t:ac} {place:Int} {i fg:Int}:cv t place i fg=true<->aH t i place = -1\/aH t i place=fg:=by
 unfold cv;simp
theorem Ve {d:TR} {place:Int} (h:Ground d place):∃ l,VC d.1 place l:=by
 refine ⟨(List.range d.1.2.1.length).map fun (i:Nat)=>if aH d.1 i place = -1 then 0 else aH d.1 i place,by simp,fun x hx=>?_,fun i hi=>?_⟩
 . obtain ⟨i,hi,rfl⟩:=List.mem_map.1 hx;have:=h.figs i (by simpa using hi);split<;>omega
 . rw [iq];have e:((List.range d.1.2.1.length).map fun (i:Nat)=>if aH d.1 i place = -1 then 0 else aH d.1 i place).getD i 0=if aH d.1 i place = -1 then 0 else aH d.1 i place:=by
    rw [List.getD_eq_getElem?_getD,List.getElem?_map,List.getElem?_range hi];rfl
   rw [e];split
   . exact .inl (by assumption)
   . exact .inr rfl
theorem AO {d:TR} {place:Int} (h:Ground d place):∃ l,Best d.1 place l/\fF d.1 l=dN (fun g=>LT d place 0 g) 9:=by
 obtain ⟨l,h1,h2,h3,h4⟩:=JF (d:=d) (place:=place) h.par d.1.2.1.length (Nat.le_refl _);have ht:=B8 h.rd h.kids h.pos l;rw [h3 h.pos,oo (f:=d_ d place l) h4,Int.add_zero] at ht;have hlow:∀ l',VC d.1 place l'->dN (fun g=>LT d place 0 g) 9<=fF d.1 l':=fun l' hl'=>by
  have ht':=B8 h.rd h.kids h.pos l';rw [rO.2 hl'.fit,Int.add_zero] at ht';have h5:=GQ (d:=d) (place:=place) (hl'.at h.pos);have h6:=or (n:=d.1.2.1.length) (f:=d_ d place l') fun i hi=>If d place (hl'.at hi)
  omega
 obtain ⟨l0,hl0⟩:=Ve h;have h7:=hlow l0 hl0;have h8:=yj (t:=d.1) l0;have h9:=h.few;have hu:jE d.1 place l=0:=Classical.byContradiction fun hc=>by
  have:=JR hc;have:=ym (t:=d.1) l;omega
 rw [hu,Int.add_zero] at ht;exact ⟨l,⟨⟨h1,h2,rO.1 hu⟩,fun l' hl'=>by rw [ht];exact hlow l' hl'⟩,ht⟩
theorem HX {d:TR} {place:Int} (h:Ground d place):dN (fun g=>LT d place 0 g) 9<=8:=by
 obtain ⟨l,_,e⟩:=AO h;have:=yj (t:=d.1) l;have:=h.few;omega
theorem EE {b:Nat} {d:TR} {place:Int} (h:Ground d place):eS (b,d,place)=dN (fun g=>LT d place 0 g) 9:=by
 have h1:=HX h;have e:eS (b,d,place)=(List.range (9+1)).foldl (fun n (g:Nat)=>if LV d place 0 g<n then LV d place 0 g else n) 1000:=rfl;rw [e,yC (s:=fun g:Nat=>LV d place 0 g) (u:=fun g:Nat=>LT d place 0 g) 9 fun g _=>se d place 0 g];unfold cap;rw [if_pos (by omega)]
theorem Tm {b:Nat} {d:TR} {place:Int} (h:Ground d place) {l:List Int} (hl:l.length=d.1.2.1.length) (hf:∀ x∈l,0<=x/\x<=9) :
 (∀ j,j<l.length->dD (b,d,place) (l.take j) (l.getD j 0)=true)<->Best d.1 place l:=by
 have hat:∀ i,i<d.1.2.1.length->0<=l.getD i 0/\l.getD i 0<=9:=fun i hi=>hf _ (jh (by omega))
 have ht:=B8 h.rd h.kids h.pos l;have hsm:=HX h;obtain ⟨l1,hb1,hc1⟩:=AO h;have hsl:∀ i,i<d.1.2.1.length->0<=d_ d place l i:=fun i hi=>If d place (hat i hi)
 have hs0:=or (n:=d.1.2.1.length) hsl;have hmr:=GQ (d:=d) (place:=place) (hat 0 h.pos);have hun:=Wk (t:=d.1) (place:=place) l;have hco:=ym (t:=d.1) l;have htake:∀ i,0<i->i<l.length->l.take i≠[]:=fun i h0 hi e=>by
  have:=congrArg List.length e;rw [List.length_take,List.length_nil,Nat.min_eq_left (by omega)] at this;omega
 have hlen:∀ i,i<l.length->(l.take i).length=i:=fun i hi=>by simp;omega
 have hpar:∀ i,0<i->i<l.length->aZ d.1 i<i:=fun i h0 hi=>by
  have:=h.par.par i h0 (by omega);unfold aZ;omega
 have hgt:∀ i,0<i->i<l.length->(l.take i).getD (bC d.1 i).toNat 0=l.getD (aZ d.1 i) 0:=fun i h0 hi=>by
  have:=hpar i h0 hi;show (l.take i).getD (aZ d.1 i) 0=_;rw [List.getD_eq_getElem?_getD,List.getD_eq_getElem?_getD,List.getElem?_take,if_pos this]
 have e0:dD (b,d,place) (l.take 0) (l.getD 0 0)=(cap (LT d place 0 (l.getD 0 0))==dN (fun g=>LT d place 0 g) 9):=by
  unfold dD;rw [if_pos (List.take_zero),EE h];show (LV d place 0 (l.getD 0 0)==_)=_;rw [se]
 have ei:∀ i,0<i->i<l.length->dD (b,d,place) (l.take i) (l.getD i 0)=(cap (f_ (LT d place) i (l.getD i 0) (l.getD (aZ d.1 i) 0))==cap (da (LT d place) i (l.getD (aZ d.1 i) 0))):=fun i h0 hi=>by
  unfold dD;rw [if_neg (htake i h0 hi),hlen i hi];show (dc (LV d place) i (l.getD i 0) ((l.take i).getD (bC d.1 i).toNat 0)==cW (LV d place) i ((l.take i).getD (bC d.1 i).toNat 0))=_;rw [hgt i h0 hi,Jh (xl d place _ _) (se d place _ _),Fq (fun g=>xl d place _ _) fun g=>se d place _ _]
 constructor
 . intro hok;have hroot:LT d place 0 (l.getD 0 0)=dN (fun g=>LT d place 0 g) 9:=by
    have:=hok 0 (by have:=h.pos;omega);rw [e0,beq_iff_eq] at this;unfold cap at this;split at this<;>omega
   have hall:∀ m i:Nat,i<=m->i<l.length->LT d place i (l.getD i 0)<1000/\d_ d place l i=0:=by
    intro m
    induction m with
    | zero =>
     intro i him hi;obtain rfl:i=0:=by omega
     refine ⟨?_,by unfold d_;rw [if_pos rfl]⟩;show LT d place 0 (l.getD 0 0)<1000;omega
    | succ m ih =>
     intro i him hi
     by_cases hi0:i=0
     . exact ih i (by omega) hi
     . have hp:=hpar i (by omega) hi;have hq:=(ih (aZ d.1 i) (by omega) (by omega)).1;rw [Dp h.rd (by omega) (by omega),Int.toNat_natCast] at hq;have hin:=h.kids.mem i (by omega) (by omega);have hle:=GE (l:=(d.2.1.getD (aZ d.1 i) []).map fun c=>da (LT d place) c (l.getD (aZ d.1 i) 0)) (fun x hx=>by
        obtain ⟨c,_,rfl⟩:=List.mem_map.1 hx;exact yB fun g=>xl d place _ _) (List.mem_map_of_mem hin)
       have hfw:da (LT d place) i (l.getD (aZ d.1 i) 0)<1000:=by split at hq<;>omega
       have hs:=hok i hi;rw [ei i (by omega) hi,beq_iff_eq] at hs;have hst:f_ (LT d place) i (l.getD i 0) (l.getD (aZ d.1 i) 0)=da (LT d place) i (l.getD (aZ d.1 i) 0):=by
        unfold cap at hs;rw [if_pos hfw] at hs;split at hs<;>omega
       refine ⟨?_,by unfold d_;rw [if_neg hi0,hst];omega⟩;unfold f_ at hst;split at hst<;>omega
   have hsum:bg d.1.2.1.length (d_ d place l)=0:=oo fun i hi=>(hall i i (Nat.le_refl _) (by omega)).2
   rw [hsum,hroot] at ht;have hu:jE d.1 place l=0:=Classical.byContradiction fun hc=>by
    have:=JR hc;omega
   exact ⟨⟨hl,hf,rO.1 hu⟩,fun l' hl'=>by have:=hb1.few l' hl';omega⟩
 . intro hb;have h1:=hb.few l1 hb1.vc;have h2:=hb1.few l hb.vc;rw [rO.2 hb.vc.fit] at ht;have hroot:LT d place 0 (l.getD 0 0)=dN (fun g=>LT d place 0 g) 9:=by omega
   have hsum:bg d.1.2.1.length (d_ d place l)=0:=by omega
   have hz:=Jt hsl hsum;intro j hj
   by_cases hj0:j=0
   . subst hj0;rw [e0,beq_iff_eq,hroot];unfold cap;rw [if_pos (by omega)]
   . rw [ei j (by omega) hj,beq_iff_eq];have:=hz j (by omega);unfold d_ at this;rw [if_neg hj0] at this
     congr 1
     omega
def dL (fs:List Int):Nat->List Int->List (List Int)
 | 0,now=>[now]
 | k+1,now=>fs.flatMap fun g=>dL fs k (now++[g])
def dO (ok:List Int->Int->Bool) (fs:List Int):Nat->List Int->List (List Int)
 | 0,now=>[now]
 | k+1,now=>fs.flatMap fun g=>if ok now g then dO ok fs k (now++[g]) else []
theorem lu {fs:List Int}:∀ {k:Nat} {now l:List Int},l∈dL fs k now<->∃ t,l=now++t/\t.length=k/\∀ x∈t,x∈fs
 | 0,now,l=>by
  simp only [dL,List.mem_singleton];constructor
  . rintro rfl;exact ⟨[],by simp,rfl,fun _ h=>by cases h⟩
  . rintro ⟨t,rfl,h,_⟩;rw [List.eq_nil_of_length_eq_zero h,List.append_nil]
 | k+1,now,l=>by
  simp only [dL,List.mem_flatMap];constructor
  . rintro ⟨g,hg,hl⟩;obtain ⟨t,rfl,h1,h2⟩:=lu.1 hl;refine ⟨g :: t,by simp,by simp [h1],fun x hx=>?_⟩;rcases List.mem_cons.1 hx with rfl|hx
    . exact hg
    . exact h2 x hx
  . rintro ⟨t,rfl,h1,h2⟩;cases t with
    | nil=>cases h1
    | cons g t=>exact ⟨g,h2 g (by simp),lu.2 ⟨t,by simp,by simpa using h1,fun x hx=>h2 x (by simp [hx])⟩⟩
theorem yD {α β:Type} {p:β->Bool} {f:α->List β}:∀ (l:List α),(l.flatMap f).filter p=l.flatMap fun x=>(f x).filter p
 | []=>rfl
 | x :: l=>by rw [List.flatMap_cons,List.filter_append,List.flatMap_cons,yD l]
theorem yH {α β:Type} {f g:α->List β}:∀ {l:List α},(∀ x∈l,f x=g x)->l.flatMap f=l.flatMap g
 | [],_=>rfl
 | x :: l,h=>by rw [List.flatMap_cons,List.flatMap_cons,h x (by simp),yH (l:=l) fun y hy=>h y (by simp [hy])]
open Classical in
theorem zW {ok:List Int->Int->Bool} {fs:List Int}:∀ (k:Nat) (now:List Int),dO ok fs k now=(dL fs k now).filter fun l=>decide (∀ j,now.length<=j->j<l.length->ok (l.take j) (l.getD j 0)=true)
 | 0,now=>by
  simp only [dO,dL];rw [List.filter_cons_of_pos]
  . rfl
  . rw [decide_eq_true_eq];intro j h1 h2;omega
 | k+1,now=>by
  simp only [dO,dL];rw [yD];refine yH fun g hg=>?_
  have key:∀ l∈dL fs k (now++[g]),(∀ j,now.length<=j->j<l.length->ok (l.take j) (l.getD j 0)=true)<->ok now g=true/\∀ j,(now++[g]).length<=j->j<l.length->ok (l.take j) (l.getD j 0)=true:=by
   intro l hl;obtain ⟨t,rfl,h1,_⟩:=lu.1 hl;have e1:(now++[g]++t).take now.length=now:=by rw [List.append_assoc,List.take_left]
   have e2:(now++[g]++t).getD now.length 0=g:=by
    rw [List.append_assoc,List.getD_eq_getElem?_getD,List.getElem?_append_right (Nat.le_refl _),Nat.sub_self];rfl
   constructor
   . intro h;refine ⟨?_,fun j h2 h3=>h j (by rw [List.length_append,List.length_singleton] at h2;omega) h3⟩;have:=h now.length (Nat.le_refl _) (by simp only [List.length_append,List.length_singleton];omega)
     rwa [e1,e2] at this
   . rintro ⟨h2,h3⟩ j h4 h5
     by_cases e:j=now.length
     . subst e;rw [e1,e2];exact h2
     . exact h3 j (by rw [List.length_append,List.length_singleton];omega) h5
  split
  . rename_i hok;rw [zW k];refine List.filter_congr fun l hl=>?_
    rw [decide_eq_decide,key l hl];exact ⟨fun h=>⟨hok,h⟩,fun h=>h.2⟩
  . rename_i hok;refine (List.filter_eq_nil_iff.2 fun l hl=>?_).symm;rw [decide_eq_true_eq,key l hl];exact fun h=>hok h.1
theorem EP {fs:List Int} {q:Int->Bool}:∀ (k:Nat) (now:List Int),dL (fs.filter q) k now=(dL fs k now).filter fun l=>(l.drop now.length).all q
 | 0,now=>by
  simp only [dL];rw [List.filter_cons_of_pos]
  . rfl
  . rw [List.drop_length];rfl
 | k+1,now=>by
  simp only [dL];rw [yD];have h:∀ l:List Int,(l.filter q).flatMap (fun g=>dL (fs.filter q) k (now++[g]))=l.flatMap fun g=>(dL fs k (now++[g])).filter fun l=>(l.drop now.length).all q:=by
   intro l
   induction l with
   | nil=>rfl
   | cons g l ih =>
    rw [List.flatMap_cons,<- ih];have key:∀ l∈dL fs k (now++[g]),((l.drop now.length).all q)=(q g && (l.drop (now++[g]).length).all q):=by
     intro l hl;obtain ⟨t,rfl,h1,_⟩:=lu.1 hl;rw [List.append_assoc,List.drop_left,<- List.append_assoc,List.drop_left];rfl
    by_cases hq:q g=true
    . rw [List.filter_cons_of_pos hq,List.flatMap_cons,EP k]
      congr 1
      refine List.filter_congr fun l hl=>?_
      rw [key l hl,hq,Bool.true_and]
    . rw [List.filter_cons_of_neg hq];have:((dL fs k (now++[g])).filter fun l=>(l.drop now.length).all q)=[]:=List.filter_eq_nil_iff.2 fun l hl=>by
       rw [key l hl];simp [hq]
      rw [this,List.nil_append]
  exact h fs
def figs:List Int:=(List.range 10).map fun (g:Nat)=>(g:Int)
theorem qD {x:Int}:x∈figs<->0<=x/\x<=9:=by
 unfold figs;simp only [List.mem_map,List.mem_range];constructor
 . rintro ⟨g,h,rfl⟩;omega
 . intro h;exact ⟨x.toNat,by omega,by omega⟩
theorem HA (sm:SM):∀ (k:Nat) (now:List Int),dP sm k now=dO (dD sm) figs k now
 | 0,_=>rfl
 | k+1,now=>by
  simp only [dP,dO,figs];rw [List.flatMap_map];exact yH fun g _=>by rw [HA sm k];rfl
open Classical in
theorem Ji {t:ac} {place:Int} (h:Ground (aJ t) place):aq t place=(dL figs t.2.1.length []).filter fun l=>decide (Best t place l):=by
 unfold aq cI;rw [HA,zW];show (dL figs (t.2.1.length - 0) []).filter _=_;rw [Nat.sub_zero];refine List.filter_congr fun l hl=>?_
 obtain ⟨u,hu,h1,h2⟩:=lu.1 hl;rw [List.nil_append] at hu;subst hu;rw [decide_eq_decide];refine Iff.trans ?_ (Tm (b:=0) h (l:=l) h1 fun x hx=>qD.1 (h2 x hx));exact ⟨fun q j hj=>q j (Nat.zero_le _) hj,fun q j _ hj=>q j hj⟩
theorem Jj {t:ac} {place:Int} (h:Ground (aJ t) place) {l:List Int}:l∈aq t place<->Best t place l:=by
 rw [Ji h];simp only [List.mem_filter,decide_eq_true_eq];refine ⟨fun q=>q.2,fun q=>⟨lu.2 ⟨l,by simp,q.vc.len,fun x hx=>qD.2 (q.vc.fig x hx)⟩,q⟩⟩
theorem ti {t:ac} {place:Int} (h:Ground (aJ t) place):∃ l,Best t place l/\gN t place=fF t l:=by
 obtain ⟨l,h1,h2⟩:=AO h;refine ⟨l,h1,?_⟩;unfold gN nY;rw [EE h,<- h2];rfl
def lT (xss:List (List Int)) (G:Int->Int):Int:=bg xss.length fun r=>((xss.getD r []).map G).sum
theorem yN {α:Type} (l:List α) (p r:Nat) (v z:α):(l.set p v).getD r z=if r=p/\p<l.length then v else l.getD r z:=by
 rw [List.getD_eq_getElem?_getD,List.getD_eq_getElem?_getD,List.getElem?_set]
 by_cases e:p=r
 . subst e
   by_cases h:p<l.length
   . simp [h]
   . simp [h]
 . rw [if_neg e,if_neg fun h=>e h.1.symm]
theorem U0 {xss:List (List Int)} {G:Int->Int} {p:Nat} {x:Int} (hp:p<xss.length):lT (xss.set p (xss.getD p []++[x])) G=lT xss G+G x:=by
 unfold lT;rw [List.length_set,<- Js hp];refine oq fun r hr=>?_
 rw [yN]
 by_cases e:r=p
 . subst e;rw [if_pos ⟨rfl,hp⟩,if_pos rfl,List.map_append,List.sum_append];simp
 . rw [if_neg fun h=>e h.1,if_neg e]
theorem zM:∀ (cs:List gg) (i:Nat) (xss:List (List Int)),(eW cs i xss).length=xss.length
 | [],_,_=>rfl
 | c :: cs,i,xss=>by
  unfold eW;rw [zM cs];split
  . rw [List.length_set]
  . rfl
theorem GI {G:Int->Int}:∀ (cs:List gg) (i:Nat) (xss:List (List Int)),(∀ (j:Nat) c,cs[j]? = some c->0<i+j->0<=c.1/\c.1<xss.length) ->
 lT (eW cs i xss) G+bg i (fun c=>if c=0 then 0 else G c)=lT xss G+bg (i+cs.length) fun c=>if c=0 then 0 else G c
 | [],i,xss,_=>rfl
 | c :: cs,i,xss,h=>by
  unfold eW;have h0:=h 0 c rfl;have e:bg (i+(c :: cs).length) (fun c=>if c=0 then 0 else G c)=bg ((i+1)+cs.length) fun c=>if c=0 then 0 else G c:=by
   rw [List.length_cons]
   congr 1
   omega
  rw [e];have ih:=GI (G:=G) cs (i+1) (if 0<i then xss.set c.1.toNat (xss.getD c.1.toNat []++[(i:Int)]) else xss) fun j c' hj hp=>by
   have:=h (j+1) c' (by simpa using hj) (by omega);split
   . rw [List.length_set];exact this
   . exact this
  simp only [bg] at ih
  by_cases hi:0<i
  . rw [if_pos hi,U0 (by have:=h0 (by omega);omega)] at ih;rw [if_neg (by omega)] at ih;rw [if_pos hi];omega
  . rw [if_neg hi] at ih;rw [if_pos (by omega)] at ih;rw [if_neg hi];omega
theorem GG {x:Int} {r:Nat}:∀ (cs:List gg) (i:Nat) (xss:List (List Int)),(∀ (j:Nat) c,cs[j]? = some c->0<i+j->0<=c.1/\c.1<xss.length) ->
 (x∈(eW cs i xss).getD r []<->x∈xss.getD r []\/∃ (j:Nat) (c:gg),cs[j]? = some c/\0<i+j/\x=((i+j:Nat):Int)/\c.1.toNat=r)
 | [],i,xss,_=>by
  unfold eW;constructor
  . exact .inl
  . rintro (h|⟨j,c,h,_⟩)
    . exact h
    . simp at h
 | c :: cs,i,xss,h=>by
  unfold eW;have h0:=h 0 c rfl;rw [GG cs (i+1) _ fun j c' hj hp=>by
   have:=h (j+1) c' (by simpa using hj) (by omega);split
   . rw [List.length_set];exact this
   . exact this]
  have e1:(x∈(if 0<i then xss.set c.1.toNat (xss.getD c.1.toNat []++[(i:Int)]) else xss).getD r [])<->x∈xss.getD r []\/(0<i/\x=(i:Int)/\c.1.toNat=r):=by
   split
   . rename_i hi;rw [yN];have:=h0 (by omega)
     by_cases er:r=c.1.toNat
     . subst er;rw [if_pos ⟨rfl,by omega⟩];simp [hi]
     . rw [if_neg fun h=>er h.1];exact ⟨.inl,fun h=>h.elim id fun h=>absurd h.2.2.symm er⟩
   . rename_i hi;exact ⟨.inl,fun h=>h.elim id fun h=>absurd h.1 hi⟩
  rw [e1];constructor
  . rintro ((h1|⟨h1,h2,h3⟩)|⟨j,c',h1,h2,h3,h4⟩)
    . exact .inl h1
    . exact .inr ⟨0,c,rfl,by omega,by simpa using h2,h3⟩
    . exact .inr ⟨j+1,c',by simpa using h1,by omega,by rw [h3];congr 1;omega,h4⟩
  . rintro (h1|⟨j,c',h1,h2,h3,h4⟩)
    . exact .inl (.inl h1)
    . cases j with
      | zero=>cases h1;exact .inl (.inr ⟨by omega,by simpa using h3,h4⟩)
      | succ j=>exact .inr ⟨j,c',by simpa using h1,by omega,by rw [h3];congr 1;omega,h4⟩
structure TreeP (t:ac) (place:Int):Prop where
 len:1<=t.2.1.length/\t.2.1.length<=8
 par:∀ i,0<i->i<t.2.1.length->0<=bC t i/\bC t i<i
 pos:0<=place
 seen:∀ i,i<t.2.1.length->place<((t.2.1.getD i (0,([],()))).2.1).length
 figs:∀ i:Nat,i<t.2.1.length -> -1<=aH t i place/\aH t i place<=9
theorem TreeP.parIn {t:ac} {place:Int} (h:TreeP t place):sf t.2.1:=fun j c hj h0=>by
 have hlt:=(List.getElem?_eq_some_iff.1 hj).1;have:=h.par j h0 hlt;unfold bC at this;rw [List.getD_eq_getElem?_getD,hj] at this;simp only [Option.getD_some] at this;omega
theorem TreeP.preT {t:ac} {place:Int} (h:TreeP t place):PreT t:=⟨by have:=h.len;omega,h.parIn⟩
theorem HO (n r:Nat):(List.replicate n ([]:List Int)).getD r []=[]:=by
 rw [List.getD_eq_getElem?_getD,List.getElem?_replicate];split<;>rfl
theorem zL {t:ac} {place:Int} (h:TreeP t place) {x:Int} {r:Nat}:x∈(jq t.2.1).getD r []<->∃ j:Nat,0<j/\j<t.2.1.length/\x=j/\aZ t j=r:=by
 unfold jq;rw [GG t.2.1 0 _ fun j c hj hp=>by rw [List.length_replicate];exact h.parIn j c hj (by omega),HO];constructor
 . rintro (h1|⟨j,c,h1,h2,h3,h4⟩)
   . cases h1
   . refine ⟨j,by omega,(List.getElem?_eq_some_iff.1 h1).1,by simpa using h3,?_⟩;unfold aZ bC;rw [List.getD_eq_getElem?_getD,h1];exact h4
 . rintro ⟨j,h1,h2,rfl,h4⟩;refine .inr ⟨j,t.2.1[j],List.getElem?_eq_getElem h2,by omega,by simp,?_⟩;unfold aZ bC at h4;rw [List.getD_eq_getElem?_getD,List.getElem?_eq_getElem h2] at h4;exact h4
theorem GJ {t:ac} {place:Int} (h:TreeP t place) (G:Int->Int):bg t.2.1.length (fun i=>(((jq t.2.1).getD i []).map G).sum)=bg t.2.1.length fun c=>if c=0 then 0 else G c:=by
 have:=GI (G:=G) t.2.1 0 (List.replicate t.2.1.length []) fun j c hj hp=>by rw [List.length_replicate];exact h.parIn j c hj (by omega)
 have e0:lT (List.replicate t.2.1.length []) G=0:=oo fun r _=>by rw [HO];rfl
 rw [e0,Nat.zero_add,Int.zero_add] at this;unfold lT at this;rw [zM,List.length_replicate] at this;simp only [bg,Int.add_zero] at this;exact this
theorem TreeP.kids {t:ac} {place:Int} (h:TreeP t place):KidsOK (aJ t) where
 own i hi c hc:=by
  obtain ⟨j,h1,h2,rfl,h4⟩:=(zL h).1 hc;exact ⟨by omega,by show (j:Int)<(t.2.1.length:Nat);omega,h4⟩
 mem c h0 hc:=(zL h).2 ⟨c,h0,hc,rfl,rfl⟩
 sum G:=GJ h G
theorem GD (l:List Int):(l.map fun _=>(1:Int)).sum=l.length:=by
 induction l with
 | nil=>rfl
 | cons x l ih=>rw [List.map_cons,List.sum_cons,ih,List.length_cons];omega
theorem TreeP.rd {t:ac} {place:Int} (h:TreeP t place):RdOK (aJ t) place where
 len:=by show t.2.1.length<=1000;have:=h.len;omega
 made:=by show (jq t.2.1).length=t.2.1.length;unfold jq;rw [zM,List.length_replicate]
 kids i hi:=by
  constructor
  . have h1:=GJ h fun _=>1
    have h2:=B5 (n:=t.2.1.length) (f:=fun i=>(((jq t.2.1).getD i []).map fun _=>(1:Int)).sum) (fun i _=>by rw [GD];omega) hi
    try dsimp only at h2
    rw [GD,h1] at h2;have h3:=Jr (n:=t.2.1.length) (f:=fun c=>if c=0 then 0 else (1:Int)) fun i _=>by split<;>omega
    have:=h.len;show ((jq t.2.1).getD i []).length<=1000;omega
  . intro c hc;obtain ⟨j,h1,h2,rfl,h4⟩:=(zL h).1 hc;have:=h.par j h1 h2;unfold aZ at h4;exact ⟨by omega,by show (j:Int)<(t.2.1.length:Nat);omega⟩
 pos:=h.pos
 seen:=h.seen
theorem TreeP.ground {t:ac} {place:Int} (h:TreeP t place):Ground (aJ t) place where
 rd:=h.rd
 kids:=h.kids
 par:=⟨h.par⟩
 pos:=h.len.1
 few:=h.len.2
 figs:=h.figs
theorem TreeP.preE {t:ac} {place:Int} (h:TreeP t place):PreE t place:=⟨h.preT,h.rd,h.len.1⟩
theorem TreeP.preS {t:ac} {place:Int} (h:TreeP t place):PreS t place:=⟨h.preT,⟨h.rd,⟨h.par⟩,h.len.1,h.len.2⟩⟩
open Go.Proofs
theorem aY {i:Int} {n:Nat} (h1:0<=i) (h2:i<n):ax i n=true:=fT.2 ⟨h1,h2⟩
theorem dT {p:Prop} [Decidable p] (h:p):decide p=true:=decide_eq_true h
theorem dF {p:Prop} [Decidable p] (h:¬ p):decide p=false:=decide_eq_false h
theorem eT {a b:Int} (h:a=b):(a==b)=true:=by simp [h]
theorem eF {a b:Int} (h:a≠b):(a==b)=false:=by simp [h]
theorem nT {a b:Int} (h:a≠b):(a != b)=true:=by simp [h]
theorem nF {a b:Int} (h:a=b):(a != b)=false:=by simp [h]
theorem kX {α:Type} {xs ys:List α} (h:xs.length+ys.length<1000000):bQ xs ys=true:=by unfold bQ;simp [h]
theorem ks {m n:Nat} (h:m<n):∃ k,n=k+1:=⟨n - 1,by omega⟩
theorem wn {i:Nat} (h:i<1000000000):IntKind.i64.wrap ((i:Int)+1)=((i+1:Nat):Int):=by rw [wr (by omega) (by omega)];omega
def eQ (t:ac) (k:Nat) (l:List Int):Int:=bg k fun i=>if i=0 then 0 else if l.getD i 0=l.getD (aZ t i) 0 then 0 else 1
theorem Nv {t:ac} {l:List Int} {j k:Nat} (h:j<=k):eQ t j l<=eQ t k l:=by
 obtain ⟨d,rfl⟩:∃ d,k=j+d:=⟨k - j,by omega⟩
 clear h
 induction d with
 | zero=>exact Int.le_refl _
 | succ d ih =>
  have e:eQ t (j+(d+1)) l=eQ t (j+d) l+(if j+d=0 then 0 else if l.getD (j+d) 0=l.getD (aZ t (j+d)) 0 then 0 else 1):=rfl;rw [e];split<;>(try split)<;>omega
theorem Nu {t:ac} {l l':List Int} {k:Nat} (hp:∀ i,0<i->i<k->aZ t i<k) (h:∀ i,i<k->l.getD i 0=l'.getD i 0):eQ t k l=eQ t k l' :=
 oq fun i hi=>by
  by_cases e:i=0
  . rw [if_pos e,if_pos e]
  . rw [if_neg e,if_neg e,h i hi,h _ (hp i (by omega) hi)]
theorem Nx {t:ac} {k:Nat} (l:List Int):0<=eQ t k l:=or fun i _=>by split<;>(try split)<;>omega
theorem qM {t:ac} {place:Int} (h:TreeP t place) {i:Nat} (h0:0<i) (hi:i<t.2.1.length):aZ t i<i:=by
 have:=h.par i h0 hi;unfold aZ;omega
def tJ (t:ac) (place:Int) (f:Int):Bool:=(List.range t.2.1.length).any fun i=>aH t i place==f
def fW (t:ac) (place:Int) (k:Nat):List Int:=((List.range k).map fun (g:Nat)=>(g:Int)).filter (tJ t place)
def dV (k:Nat):List Int:=(List.range k).map fun (g:Nat)=>(g:Int)
def eX (t:ac) (place:Int):List Int:=if fW t place 10=[] then figs else fW t place 10
theorem Rv {t:ac} {place f:Int}:tJ t place f=true<->∃ i:Nat,i<t.2.1.length/\aH t i place=f:=by
 unfold tJ;simp [List.any_eq_true]
theorem ue {t:ac} {place x:Int}:x∈fW t place 10<->(0<=x/\x<=9)/\∃ i:Nat,i<t.2.1.length/\aH t i place=x:=by
 unfold fW;rw [List.mem_filter,Rv];exact and_congr_left fun _=>qD
theorem Lv (k:Nat):dV (k+1)=dV k++[(k:Int)]:=by
 unfold dV;rw [List.range_succ,List.map_append];rfl
theorem Lt (k:Nat):(dV k).length=k:=by unfold dV;simp
def gv (t:ac) (place most:Int) (now:List Int) (g:Int):Bool:=(decide (aH t now.length place<0) || g==aH t now.length place) && decide (eQ t (now.length+1) (now++[g])<=most)
theorem zS {t:ac} {place most:Int} {now:List Int} {g:Int}:gv t place most now g=true<->(aH t now.length place<0\/g=aH t now.length place)/\eQ t (now.length+1) (now++[g])<=most:=by
 unfold gv;rw [Bool.and_eq_true,Bool.or_eq_true,decide_eq_true_eq,beq_iff_eq,decide_eq_true_eq]
theorem Rm {f:Int->Int} {l:List Int} {i:Nat} (h:i<l.length):(l.map f).getD i 0=f (l.getD i 0):=by
 rw [List.getD_eq_getElem?_getD,List.getD_eq_getElem?_getD,List.getElem?_map,List.getElem?_eq_getElem h];rfl
theorem ud {l:List Int} {x:Int} (h:x∈l):∃ i,i<l.length/\l.getD i 0=x:=by
 obtain ⟨i,hi,e⟩:=List.mem_iff_getElem.1 h;exact ⟨i,hi,by rw [List.getD_eq_getElem?_getD,List.getElem?_eq_getElem hi];exact e⟩
theorem LC {t:ac} {place:Int} (ht:TreeP t place) {l:List Int} (hb:Best t place l):∀ x∈l,x∈eX t place:=by
 intro f hf;have hv:=hb.vc;unfold eX;split
 . exact qD.2 (hv.fig f hf)
 rename_i hm;refine Classical.byContradiction fun hnf=>?_
 obtain ⟨j,hj,hjf⟩:=ud hf;rw [hv.len] at hj;obtain ⟨f0,hf0⟩:=List.exists_mem_of_ne_nil _ hm;obtain ⟨⟨g1,g2⟩,i0,hi0,e0⟩:=ue.1 hf0;have hl0:l.getD i0 0=f0:=by
  rcases iq.1 (hv.fit i0 hi0) with h|h<;>omega
 have hne:f≠f0:=fun e=>hnf (e ▸ hf0)
 obtain ⟨i,hi0',hi,hedge⟩:∃ i,0<i/\i<t.2.1.length/\¬ (l.getD i 0=f<->l.getD (aZ t i) 0=f):=by
  refine Classical.byContradiction fun hc=>?_
  have hall:∀ m i:Nat,i<=m->i<t.2.1.length->(l.getD i 0=f<->l.getD 0 0=f):=by
   intro m
   induction m with
   | zero =>
    intro i h1 h2;obtain rfl:i=0:=by omega
    exact Iff.rfl
   | succ m ih =>
    intro i h1 h2
    by_cases e:i=0
    . subst e;exact Iff.rfl
    . have hp:=qM ht (by omega) h2;refine Iff.trans (Classical.byContradiction fun hq=>hc ⟨i,by omega,h2,hq⟩) (ih _ (by omega) (by omega))
  have h1:=(hall j j (Nat.le_refl _) hj).1 hjf;have h2:=(hall i0 i0 (Nat.le_refl _) hi0).2 h1;omega
 have hpi:=qM ht hi0' hi;obtain ⟨g,hg⟩:∃ g,g=if l.getD i 0=f then l.getD (aZ t i) 0 else l.getD i 0:=⟨_,rfl⟩
 have hgf:g≠f:=by
  rw [hg];split
  . rename_i h1;intro h2;exact hedge ⟨fun _=>h2,fun _=>h1⟩
  . assumption
 have hg9:0<=g/\g<=9:=by
  rw [hg];split
  . exact hv.at (by omega)
  . exact hv.at hi
 obtain ⟨φ,hφ⟩:∃ φ:Int->Int,φ=fun x=>if x=f then g else x:=⟨_,rfl⟩
 have hmap:∀ k,k<t.2.1.length->(l.map φ).getD k 0=φ (l.getD k 0):=fun k hk=>Rm (by rw [hv.len];exact hk)
 have hvc:VC t place (l.map φ):=by
  refine ⟨by rw [List.length_map];exact hv.len,fun x hx=>?_,fun k hk=>?_⟩
  . obtain ⟨y,hy,rfl⟩:=List.mem_map.1 hx;rw [hφ];dsimp only;split
    . exact hg9
    . exact hv.fig y hy
  . rw [hmap k hk];rcases iq.1 (hv.fit k hk) with h|h
    . exact iq.2 (.inl h)
    . refine iq.2 (.inr ?_);rw [hφ];dsimp only;rw [if_neg]
      . exact h
      . intro e;have:=hv.at hk;exact hnf (ue.2 ⟨hv.fig f hf,k,hk,by omega⟩)
 have hlt:fF t (l.map φ)<fF t l:=by
  refine V_ (fun k hk=>?_) hi ?_
  . by_cases e:k=0
    . rw [if_pos e,if_pos e];exact Int.le_refl _
    . have hp:=qM ht (by omega) hk;rw [if_neg e,if_neg e,hmap k hk,hmap _ (by omega)]
      by_cases e2:l.getD k 0=l.getD (aZ t k) 0
      . rw [if_pos e2,e2,if_pos rfl];exact Int.le_refl _
      . rw [if_neg e2];split<;>omega
  . try dsimp only
    have hi0n:¬ i=0:=by omega
    rw [if_neg hi0n,if_neg hi0n,hmap i hi,hmap _ (by omega)];have h1:φ (l.getD i 0)=φ (l.getD (aZ t i) 0):=by
     rw [hφ];dsimp only
     by_cases e:l.getD i 0=f
     . rw [if_pos e] at hg;rw [if_pos e,if_neg (by rw [<- hg];exact hgf),hg]
     . rw [if_neg e] at hg;have e2:l.getD (aZ t i) 0=f:=Classical.byContradiction fun e2=>hedge ⟨fun h=>absurd h e,fun h=>absurd h e2⟩
       rw [if_neg e,if_pos e2,hg]
    have h2:l.getD i 0≠l.getD (aZ t i) 0:=fun e=>hedge (by rw [e])
    rw [if_pos h1,if_neg h2];omega
 have:=hb.few _ hvc;omega
theorem yJ {α:Type} {F:Int->List α} {B:Nat}:∀ {S:List Int},(∀ g∈S,(F g).length<=B)->(S.flatMap F).length<=S.length * B
 | [],_=>by simp
 | g :: S,h=>by
  rw [List.flatMap_cons,List.length_append,List.length_cons,Nat.succ_mul];have:=h g (by simp);have:=yJ (S:=S) fun y hy=>h y (by simp [hy])
  omega
theorem Fz {α:Type} {F:Int->List α}:∀ {S:List Int},(∀ g∈S,F g=[])->S.flatMap F=[]
 | [],_=>rfl
 | g :: S,h=>by rw [List.flatMap_cons,h g (by simp),Fz fun y hy=>h y (by simp [hy])];rfl
theorem yK {α:Type} {F:Int->List α} {B:Nat} {own:Int}:∀ {S:List Int},S.Nodup->(∀ g∈S,g≠own->F g=[])->(∀ g∈S,(F g).length<=B)->(S.flatMap F).length<=B
 | [],_,_,_=>by simp
 | g :: S,hn,h,hB=>by
  rw [List.flatMap_cons,List.length_append];have hn':=List.nodup_cons.1 hn
  by_cases e:g=own
  . have:S.flatMap F=[]:=Fz fun y hy=>h y (by simp [hy]) fun e2=>hn'.1 (by rw [e,<- e2];exact hy)
    rw [this];have:=hB g (by simp);simp only [List.length_nil];omega
  . rw [h g (by simp) e];have:=yK (F:=F) (own:=own) hn'.2 (fun y hy=>h y (by simp [hy])) fun y hy=>hB y (by simp [hy])
    simp only [List.length_nil];omega
theorem Ft:figs.Nodup:=by decide
theorem AG (t:ac) (place:Int):∃ q:Int->Bool,eX t place=figs.filter q:=by
 unfold eX;split
 . exact ⟨fun _=>true,(List.filter_eq_self.2 fun _ _=>rfl).symm⟩
 . exact ⟨tJ t place,rfl⟩
theorem HI (t:ac) (place:Int):(eX t place).Nodup:=by
 obtain ⟨q,e⟩:=AG t place;rw [e];exact Ft.filter q
theorem UQ (t:ac) (place:Int):(eX t place).length<=10:=by
 obtain ⟨q,e⟩:=AG t place;rw [e];exact List.length_filter_le _ _
def vm (t:ac) (place:Int) (i:Nat):Nat:=if aH t i place<0 then 1 else 0
def fA (t:ac) (place:Int):Nat->Nat->Nat
 | 0,_=>0
 | k+1,a=>vm t place a+fA t place k (a+1)
theorem Hx {t:ac} {place most:Int} {S:List Int} (hn:S.Nodup) (h1:1<=S.length):∀ (k:Nat) (now:List Int),(dO (gv t place most) S k now).length<=S.length ^ fA t place k now.length
 | 0,now=>by simp [dO,fA]
 | k+1,now=>by
  simp only [dO,fA];have hstep:∀ g∈S,(if gv t place most now g then dO (gv t place most) S k (now++[g]) else []).length<=S.length ^ fA t place k (now.length+1):=fun g _=>by
   split
   . have:=Hx (t:=t) (place:=place) (most:=most) hn h1 k (now++[g])
     rwa [List.length_append] at this
   . exact Nat.zero_le _
  by_cases ho:aH t now.length place<0
  . have:=yJ hstep;unfold vm;rw [if_pos ho,Nat.pow_add,Nat.pow_one];exact this
  . unfold vm;rw [if_neg ho,Nat.zero_add];refine yK (own:=aH t now.length place) hn (fun g _ hg=>?_) hstep;rw [if_neg fun h=>(zS.1 h).1.elim (fun h=>ho h) fun h=>hg h]
theorem G5:∀ {l l':List Int},l.Nodup->(∀ x∈l,x∈l')->l.length<=l'.length
 | [],_,_,_=>Nat.zero_le _
 | x :: l,l',hn,h=>by
  have hn':=List.nodup_cons.1 hn;have hx:=h x (by simp);have:=G5 (l:=l) (l':=l'.erase x) hn'.2 fun y hy=>(List.mem_erase_of_ne fun e=>hn'.1 (by rw [<- e];exact hy)).2 (h y (by simp [hy]))
  rw [List.length_erase_of_mem hx] at this;have h0:0<l'.length:=List.length_pos_of_mem hx;rw [List.length_cons];omega
theorem HJ (t:ac) (place:Int):∀ (k a:Nat),((List.range' a k).filter fun (i:Nat)=>decide (¬ aH t i place<0)).length+fA t place k a=k
 | 0,_=>rfl
 | k+1,a=>by
  rw [List.range'_succ];have:=HJ t place k (a+1);unfold fA vm
  by_cases h:aH t a place<0
  . rw [List.filter_cons_of_neg (by simp;exact h),if_pos h];omega
  . rw [List.filter_cons_of_pos (by simp;omega),if_neg h,List.length_cons];omega
theorem S9 (t:ac) (place:Int):(fW t place 10).length+fA t place t.2.1.length 0<=t.2.1.length:=by
 have h1:=HJ t place t.2.1.length 0;have h2:(fW t place 10).length<=(((List.range' 0 t.2.1.length).filter fun (i:Nat)=>decide (¬ aH t i place<0)).map fun (i:Nat)=>aH t i place).length:=by
  refine G5 (Ft.filter _) fun x hx=>?_
  obtain ⟨h3,i,h4,h5⟩:=ue.1 hx;refine List.mem_map.2 ⟨i,List.mem_filter.2 ⟨?_,?_⟩,h5⟩
  . rw [List.mem_range'];exact ⟨i,h4,by omega⟩
  . simp;omega
 rw [List.length_map] at h2;omega
theorem Ut:∀ r,r<=8->∀ u,u<=8->1<=r->r+u<=8->r ^ u<=256:=by decide
theorem Us {r u v:Nat} (h1:1<=r) (h:u<=v):r ^ u<=r ^ v:=Nat.pow_le_pow_right h1 h
theorem Wm (t:ac) (place:Int):∀ (a k:Nat),fA t place k a<=fA t place (a+k) 0:=by
 intro a k;have h:∀ (a b k:Nat),fA t place (a+k) b=fA t place a b+fA t place k (b+a):=by
  intro a
  induction a with
  | zero=>intro b k;simp [fA]
  | succ a ih =>
   intro b k;rw [show a+1+k=(a+k)+1 by omega];simp only [fA];rw [ih,show b+(a+1)=b+1+a by omega];omega
 have:=h a 0 k;rw [Nat.zero_add] at this;omega
theorem UB {t:ac} {place most:Int} (ht:TreeP t place) (hm:fW t place 10≠[]\/most=0):∀ k now,now.length+k=t.2.1.length->(dO (gv t place most) (eX t place) k now).length<=256:=by
 intro k now hk;have hlen:=ht.len
 by_cases he:fW t place 10=[]
 . have hmost:most=0:=hm.resolve_left fun h=>h he
   subst hmost;have hne:∀ (k:Nat) (now:List Int),now≠[]->now.length+k=t.2.1.length->(dO (gv t place 0) (eX t place) k now).length<=1:=by
    intro k
    induction k with
    | zero=>intro now _ _;simp [dO]
    | succ k ih =>
     intro now hnow hk;simp only [dO];have hpos:0<now.length:=List.length_pos_iff.2 hnow;have hp:=qM ht hpos (by omega);refine yK (own:=now.getD (aZ t now.length) 0) (HI t place) (fun g _ hg=>?_) fun g _=>?_
     . rw [if_neg];intro hok;have hok:=(zS.1 hok).2;have:0<eQ t (now.length+1) (now++[g]):=by
        have e:eQ t (now.length+1) (now++[g])=eQ t now.length (now++[g])+(if now.length=0 then 0 else if (now++[g]).getD now.length 0=(now++[g]).getD (aZ t now.length) 0 then 0 else 1):=rfl;rw [e,if_neg (by omega)];have e1:(now++[g]).getD now.length 0=g:=by
         rw [List.getD_eq_getElem?_getD,List.getElem?_append_right (Nat.le_refl _),Nat.sub_self];rfl
        have e2:(now++[g]).getD (aZ t now.length) 0=now.getD (aZ t now.length) 0:=by
         rw [List.getD_eq_getElem?_getD,List.getD_eq_getElem?_getD,List.getElem?_append_left hp]
        rw [e1,e2,if_neg hg];have:=Nx (t:=t) (k:=now.length) (now++[g]);omega
       omega
     . split
       . exact ih _ (by simp) (by simp;omega)
       . exact Nat.zero_le _
   by_cases hnow:now=[]
   . subst hnow;cases k with
     | zero=>simp [dO]
     | succ k =>
      simp only [dO];have:=yJ (S:=eX t place) (B:=1) (F:=fun g=>if gv t place 0 [] g then dO (gv t place 0) (eX t place) k ([]++[g]) else []) fun g _=>by
       try dsimp only
       split
       . exact hne k _ (by simp) (by simp at hk ⊢;omega)
       . exact Nat.zero_le _
      have:=UQ t place;omega
   . have:=hne k now hnow hk;omega
 . have hr:eX t place=fW t place 10:=by unfold eX;rw [if_neg he]
   have h1:1<=(fW t place 10).length:=List.length_pos_iff.2 he;have hml:=S9 t place;have h2:=Hx (t:=t) (place:=place) (most:=most) (HI t place) (by rw [hr];exact h1) k now;have h3:=Wm t place now.length k;rw [hk] at h3;rw [hr] at h2 ⊢;exact Nat.le_trans h2 (Nat.le_trans (Us h1 h3) (Ut _ (by omega) _ (by omega) h1 (by omega)))
open Classical in
theorem NE {t:ac} {place most:Int} (ht:TreeP t place):dO (gv t place most) (eX t place) t.2.1.length []=(dL figs t.2.1.length []).filter fun l=>decide (VC t place l/\fF t l<=most/\∀ x∈l,x∈eX t place):=by
 rw [zW];have hlen:=ht.len;obtain ⟨q,hq⟩:=AG t place;have hmem:∀ x,x∈figs->(q x=true<->x∈eX t place):=fun x hx=>by rw [hq,List.mem_filter];exact ⟨fun h=>⟨hx,h⟩,fun h=>h.2⟩
 conv=>lhs;rw [hq]
 rw [EP,List.filter_filter];refine List.filter_congr fun l hl=>?_
 obtain ⟨u,hu,hul,huf⟩:=lu.1 hl;rw [List.nil_append] at hu;subst hu;rw [<- Bool.decide_eq_true (b:=(l.drop ([]:List Int).length).all q),<- Bool.decide_and,decide_eq_decide];have hpar:∀ i,0<i->i<l.length->aZ t i<i:=fun i h0 hi=>qM ht h0 (by omega)
 have htake:∀ j,j<l.length->eQ t (j+1) (l.take j++[l.getD j 0])=eQ t (j+1) l:=fun j hj=>by
  refine Nu (fun i h0 hi=>by have:=hpar i h0 (by omega);omega) fun i hi=>?_
  by_cases e:i=j
  . subst e;rw [List.getD_eq_getElem?_getD,List.getElem?_append_right (by rw [List.length_take];exact Nat.min_le_left _ _),List.length_take,Nat.min_eq_left (by omega),Nat.sub_self];rfl
  . rw [List.getD_eq_getElem?_getD,List.getElem?_append_left (by simp;omega),List.getElem?_take,if_pos (by omega),List.getD_eq_getElem?_getD]
 have hok:∀ j,j<l.length->(gv t place most (l.take j) (l.getD j 0)=true<->(aH t j place<0\/l.getD j 0=aH t j place)/\eQ t (j+1) l<=most):=fun j hj=>by
  rw [zS,List.length_take,Nat.min_eq_left (by omega),htake j hj]
 constructor
 . rintro ⟨h1,h2⟩;have h1':∀ j,j<l.length->(aH t j place<0\/l.getD j 0=aH t j place)/\eQ t (j+1) l<=most:=fun j hj=>(hok j hj).1 (h1 j (Nat.zero_le _) hj)
   refine ⟨⟨hul,fun x hx=>qD.1 (huf x hx),fun i hi=>?_⟩,?_,fun x hx=>(hmem x (huf x hx)).1 (List.all_eq_true.1 h2 x (by simpa using hx))⟩
   . have:=ht.figs i hi;rcases (h1' i (by omega)).1 with h|h
     . exact iq.2 (.inl (by omega))
     . exact iq.2 (.inr h.symm)
   . have:=(h1' (l.length - 1) (by omega)).2;rw [Nat.sub_add_cancel (by omega),hul] at this;exact this
 . rintro ⟨h1,h2,h3⟩;refine ⟨fun j _ hj=>(hok j hj).2 ⟨?_,?_⟩,List.all_eq_true.2 fun x hx=>(hmem x (huf x (by simpa using hx))).2 (h3 x (by simpa using hx))⟩
   . rcases iq.1 (h1.fit j (by omega)) with h|h
     . exact .inl (by omega)
     . exact .inr h.symm
   . exact Int.le_trans (Nv (by omega)) h2
open Classical in
theorem ND {t:ac} {place:Int} (ht:TreeP t place):dO (gv t place (gN t place)) (eX t place) t.2.1.length []=aq t place:=by
 rw [NE ht,Ji ht.ground];refine List.filter_congr fun l _=>?_
 rw [decide_eq_decide];obtain ⟨l',h3,h4⟩:=ti ht.ground;constructor
 . rintro ⟨h1,h2,_⟩;exact ⟨h1,fun l2 hl2=>by have:=h3.few l2 hl2;omega⟩
 . intro hb;exact ⟨hb.vc,by have:=hb.few l' h3.vc;omega,LC ht hb⟩
theorem yu {t:ac} {place:Int} (ht:TreeP t place):0<=gN t place/\gN t place<=8:=by
 obtain ⟨l,_,e⟩:=ti ht.ground;have:=yj (t:=t) l;have:=ym (t:=t) l;have:=ht.len;omega
theorem rG {t:ac} {place:Int} (ht:TreeP t place):aq t place≠[]:=by
 obtain ⟨l,h,_⟩:=ti ht.ground;exact List.ne_nil_of_mem ((Jj ht.ground).2 h)
theorem O4 {t:ac} {place:Int} (ht:TreeP t place) (hm:fW t place 10=[]):gN t place=0:=by
 have hb:=yu ht;have hun:∀ i:Nat,i<t.2.1.length->aH t i place = -1:=fun i hi=>by
  have:=ht.figs i hi;refine Classical.byContradiction fun hc=>?_
  have:aH t i place∈fW t place 10:=ue.2 ⟨by omega,i,hi,rfl⟩;rw [hm] at this;cases this
 obtain ⟨l,h1,h2⟩:=ti ht.ground;have hr:∀ i,(List.replicate t.2.1.length (0:Int)).getD i 0=0:=fun i=>by
  rw [List.getD_eq_getElem?_getD,List.getElem?_replicate];split<;>rfl
 have h3:=h1.few (List.replicate t.2.1.length 0) ⟨by simp,fun x hx=>by rw [List.eq_of_mem_replicate hx];omega,fun i hi=>iq.2 (.inl (hun i hi))⟩;have h4:fF t (List.replicate t.2.1.length 0)=0:=oo fun i _=>by
  split
  . rfl
  . rw [hr,hr,if_pos rfl]
 omega
theorem og {t:ac} {place:Int} (ht:TreeP t place):(aq t place).length<=256:=by
 rw [<- ND ht];refine UB ht ?_ _ _ (by simp)
 by_cases h:fW t place 10=[]
 . exact .inr (O4 ht h)
 . exact .inl h
end Go.V
end
