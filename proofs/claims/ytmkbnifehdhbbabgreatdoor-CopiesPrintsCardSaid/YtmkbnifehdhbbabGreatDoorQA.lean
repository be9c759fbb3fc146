/- A part of the proof of a law of the copies. -/
import Derived.Test.YtmkbnifehdhbbabGreatDoorCV
import Derived.Test.YtmkbnifehdhbbabGreatDoorC1
set_option linter.all false
noncomputable section
namespace Go.V
def sumTo:Nat->(Nat->Int)->Int
 | 0,_=>0
 | n+1,f=>sumTo n f+f n
theorem sumTo_congr {n:Nat} {f g:Nat->Int} (h:∀ i,i<n->f i=g i):sumTo n f=sumTo n g:=by
 induction n with
 | zero=>rfl
 | succ n ih=>simp only [sumTo];rw [ih fun i hi=>h i (by omega),h n (by omega)]
theorem sumTo_add (n:Nat) (f g:Nat->Int):sumTo n (fun i=>f i+g i)=sumTo n f+sumTo n g:=by
 induction n with
 | zero=>rfl
 | succ n ih=>simp only [sumTo];rw [ih];omega
theorem sumTo_nonneg {n:Nat} {f:Nat->Int} (h:∀ i,i<n->0<=f i):0<=sumTo n f:=by
 induction n with
 | zero=>exact Int.le_refl 0
 | succ n ih =>
  simp only [sumTo];have:=ih fun i hi=>h i (by omega)
  have:=h n (by omega);omega
theorem sumTo_mono {n:Nat} {f g:Nat->Int} (h:∀ i,i<n->f i<=g i):sumTo n f<=sumTo n g:=by
 induction n with
 | zero=>exact Int.le_refl 0
 | succ n ih =>
  simp only [sumTo];have:=ih fun i hi=>h i (by omega)
  have:=h n (by omega);omega
theorem sumTo_lt {n:Nat} {f g:Nat->Int} (h:∀ i,i<n->f i<=g i) {k:Nat} (hk:k<n) (hlt:f k<g k):sumTo n f<sumTo n g:=by
 induction n with
 | zero=>omega
 | succ n ih =>
  simp only [sumTo];have h1:=h n (by omega)
  by_cases e:k=n
  . subst e;have:=sumTo_mono (n:=k) fun i hi=>h i (by omega)
    omega
  . have:=ih (fun i hi=>h i (by omega)) (by omega);omega
theorem sumTo_one {n:Nat} {f:Nat->Int} (h:∀ i,i<n->0<=f i) {k:Nat} (hk:k<n):f k<=sumTo n f:=by
 induction n with
 | zero=>omega
 | succ n ih =>
  simp only [sumTo];have h1:=h n (by omega)
  by_cases e:k=n
  . subst e;have:=sumTo_nonneg (n:=k) fun i hi=>h i (by omega)
    omega
  . have:=ih (fun i hi=>h i (by omega)) (by omega);omega
theorem sumTo_zero {n:Nat} {f:Nat->Int} (h:∀ i,i<n->0<=f i) (h0:sumTo n f=0):∀ i,i<n->f i=0:=fun i hi=>by
 have:=sumTo_one h hi;have:=h i hi;omega
theorem sumTo_all0 {n:Nat} {f:Nat->Int} (h:∀ i,i<n->f i=0):sumTo n f=0:=by
 induction n with
 | zero=>rfl
 | succ n ih=>simp only [sumTo];rw [ih fun i hi=>h i (by omega),h n (by omega)];rfl
theorem sumTo_le {n:Nat} {f:Nat->Int} (h:∀ i,i<n->f i<=1):sumTo n f<=n:=by
 induction n with
 | zero=>exact Int.le_refl 0
 | succ n ih =>
  simp only [sumTo];have:=ih fun i hi=>h i (by omega)
  have:=h n (by omega);omega
theorem sumTo_upd {n p:Nat} {f:Nat->Int} {x:Int} (hp:p<n):sumTo n (fun r=>if r=p then f r+x else f r)=sumTo n f+x:=by
 induction n with
 | zero=>omega
 | succ n ih =>
  simp only [sumTo]
  by_cases e:p=n
  . subst e;rw [if_pos rfl,sumTo_congr (g:=f) fun i hi=>if_neg (by omega)];omega
  . rw [ih (by omega),if_neg (by omega)];omega
theorem sumTo_first {n:Nat} (h:0<n) (x:Int):sumTo n (fun i=>if i=0 then x else 0)=x:=by
 have:=sumTo_upd (n:=n) (p:=0) (f:=fun _=>0) (x:=x) h;rw [sumTo_all0 (f:=fun _=>(0:Int)) fun _ _=>rfl] at this;refine Eq.trans (sumTo_congr fun i _=>?_) (this.trans (by omega));split<;>omega
theorem lsum_nonneg:∀ {l:List Int},(∀ x∈l,0<=x)->0<=l.sum
 | [],_=>Int.le_refl 0
 | x :: l,h=>by
  rw [List.sum_cons];have:=h x (by simp);have:=lsum_nonneg (l:=l) fun y hy=>h y (by simp [hy])
  omega
theorem lsum_one:∀ {l:List Int},(∀ x∈l,0<=x)->∀ {y:Int},y∈l->y<=l.sum
 | [],_,_,hy=>by cases hy
 | x :: l,h,y,hy=>by
  rw [List.sum_cons];have h1:=h x (by simp);have h2:=lsum_nonneg (l:=l) fun y hy=>h y (by simp [hy])
  rcases List.mem_cons.1 hy with rfl|hy
  . omega
  . have:=lsum_one (l:=l) (fun y hy=>h y (by simp [hy])) hy;omega
def minU (f:Nat->Int):Nat->Int
 | 0=>f 0
 | k+1=>if f (k+1)<minU f k then f (k+1) else minU f k
theorem minU_le (f:Nat->Int):∀ (k j:Nat),j<=k->minU f k<=f j
 | 0,j,h=>by
  obtain rfl:j=0:=by omega
  exact Int.le_refl _
 | k+1,j,h=>by
  unfold minU
  by_cases e:j=k+1
  . subst e;split<;>omega
  . have:=minU_le f k j (by omega);split<;>omega
theorem minU_at (f:Nat->Int):∀ (k:Nat),∃ j,j<=k/\minU f k=f j
 | 0=>⟨0,Nat.le_refl _,rfl⟩
 | k+1=>by
  unfold minU;obtain ⟨j,h1,h2⟩:=minU_at f k;split
  . exact ⟨k+1,Nat.le_refl _,rfl⟩
  . exact ⟨j,by omega,h2⟩
def stepU (f:Int->Int->Int) (c g p:Int):Int:=f c g+(if g=p then 0 else 1)
def fewU (f:Int->Int->Int) (c p:Int):Int:=minU (fun g=>stepU f c (g:Int) p) 9
def LU (d:TR) (place:Int):Nat->Int->Int->Int
 | 0=>fun _ _=>0
 | n+1=>fun fr fg=>(if fitsV d.1 place fr fg then 0 else 1000)+((d.2.1.getD fr.toNat []).map fun c=>fewU (LU d place n) c fg).sum
def LT (d:TR) (place fr fg:Int):Int:=LU d place d.1.2.1.length fr fg
def cap (x:Int):Int:=if x<1000 then x else 1000
theorem fewU_nonneg {f:Int->Int->Int} {c p:Int} (h:∀ g,0<=f c g):0<=fewU f c p:=by
 obtain ⟨j,_,e⟩:=minU_at (fun g=>stepU f c (g:Int) p) 9;unfold fewU;rw [e];unfold stepU;have:=h j;split<;>omega
theorem LU_nonneg (d:TR) (place:Int):∀ (n:Nat) (fr fg:Int),0<=LU d place n fr fg
 | 0,_,_=>Int.le_refl 0
 | n+1,fr,fg=>by
  unfold LU;have:=lsum_nonneg (l:=(d.2.1.getD fr.toNat []).map fun c=>fewU (LU d place n) c fg) fun x hx=>by
   obtain ⟨c,_,rfl⟩:=List.mem_map.1 hx;exact fewU_nonneg fun g=>LU_nonneg d place n c g
  split<;>omega
theorem LT_nonneg (d:TR) (place fr fg:Int):0<=LT d place fr fg:=LU_nonneg d place _ fr fg
theorem foldl_cap:∀ (l:List Int) (n:Int),0<=n->n<=1000->(∀ x∈l,0<=x)->l.foldl (fun n x=>if n+x<1000 then n+x else 1000) n=cap (n+l.sum)
 | [],n,h0,h1,_=>by
  simp only [List.foldl_nil,List.sum_nil];unfold cap;split<;>omega
 | x :: l,n,h0,h1,hx=>by
  have hx0:=hx x (by simp);have hl:=lsum_nonneg (l:=l) fun y hy=>hx y (by simp [hy])
  rw [List.foldl_cons,foldl_cap l _ (by split<;>omega) (by split<;>omega) fun y hy=>hx y (by simp [hy]),List.sum_cons];unfold cap;split<;>split<;>(try split)<;>omega
theorem sumV_cap {l:List Int} (h:∀ x∈l,0<=x):sumV l=cap l.sum:=by
 unfold sumV;rw [foldl_cap l 0 (by omega) (by omega) h,Int.zero_add]
theorem cap_nonneg {x:Int} (h:0<=x):0<=cap x:=by unfold cap;split<;>omega
theorem cap_sum {f:Int->Int}:∀ (l:List Int) (a:Int),0<=a->(∀ c∈l,0<=f c)->cap (cap a+(l.map fun c=>cap (f c)).sum)=cap (a+(l.map f).sum)
 | [],a,ha,_=>by simp only [List.map_nil,List.sum_nil];unfold cap;split<;>split<;>omega
 | c :: l,a,ha,h=>by
  have hc:=h c (by simp);have h1:=cap_sum (f:=f) l (a+f c) (by omega) fun x hx=>h x (by simp [hx])
  have h2:=cap_sum (f:=f) l (cap a+cap (f c)) (by have:=cap_nonneg ha;have:=cap_nonneg hc;omega) fun x hx=>h x (by simp [hx])
  have hl:=lsum_nonneg (l:=l.map fun c=>cap (f c)) fun x hx=>by
   obtain ⟨c,hc,rfl⟩:=List.mem_map.1 hx;exact cap_nonneg (h c (by simp [hc]))
  simp only [List.map_cons,List.sum_cons];rw [<- Int.add_assoc,<- Int.add_assoc,<- h1];have e:cap (cap a+cap (f c))=cap (a+f c):=by
   unfold cap;split<;>split<;>split<;>(try split)<;>omega
  rw [<- e]
  revert hl
  generalize (l.map fun c=>cap (f c)).sum=z;intro hl;have ha':=cap_nonneg ha;have hc':=cap_nonneg hc;generalize cap a+cap (f c)=y at *;unfold cap;split<;>split<;>(try split)<;>omega
theorem stepOf_cap {f u:Int->Int->Int} {c g p:Int} (hu:0<=u c g) (h:f c g=cap (u c g)):stepOf f c g p=cap (stepU u c g p):=by
 unfold stepOf stepU;split
 . rw [h,Int.add_zero]
 . rw [sumV_cap (by intro x hx;rw [h] at hx;have:=cap_nonneg hu;simp at hx;omega),h];simp only [List.sum_cons,List.sum_nil];unfold cap;split<;>split<;>(try split)<;>omega
theorem few_cap {s u:Nat->Int}:∀ (k:Nat),(∀ g,g<=k->s g=cap (u g))->(List.range (k+1)).foldl (fun n g=>if s g<n then s g else n) 1000=cap (minU u k)
 | 0,h=>by
  rw [List.range_succ,List.range_zero];simp only [List.nil_append,List.foldl_cons,List.foldl_nil];rw [h 0 (Nat.le_refl _)];unfold minU cap;split<;>(try split)<;>omega
 | k+1,h=>by
  rw [List.range_succ,List.foldl_append,few_cap k fun g hg=>h g (by omega)];simp only [List.foldl_cons,List.foldl_nil];rw [h (k+1) (Nat.le_refl _)];simp only [minU];unfold cap;split<;>split<;>(try split)<;>(try split)<;>omega
theorem fewOf_cap {f u:Int->Int->Int} {c p:Int} (hu:∀ g:Nat,0<=u c g) (h:∀ g:Nat,f c g=cap (u c g)):fewOf f c p=cap (fewU u c p):=by
 unfold fewOf fewU;exact few_cap 9 fun g _=>stepOf_cap (hu g) (h g)
theorem leastV_cap (d:TR) (place:Int):∀ (n:Nat) (fr fg:Int),leastV d place n fr fg=cap (LU d place n fr fg)
 | 0,_,_=>by unfold leastV LU cap;rfl
 | n+1,fr,fg=>by
  unfold leastV LU;have e:((d.2.1.getD fr.toNat []).map fun c=>fewOf (leastV d place n) c fg)=(d.2.1.getD fr.toNat []).map fun c=>cap (fewU (LU d place n) c fg) :=
   List.map_congr_left fun c _=>fewOf_cap (fun g=>LU_nonneg d place n c g) fun g=>leastV_cap d place n c g
  have hn:∀ c:Int,0<=fewU (LU d place n) c fg:=fun c=>fewU_nonneg fun g=>LU_nonneg d place n c g
  rw [e];rw [sumV_cap]
  . rw [List.sum_append];have h1:=cap_sum (f:=fun c=>fewU (LU d place n) c fg) (d.2.1.getD fr.toNat []) (if fitsV d.1 place fr fg then 0 else 1000) (by split<;>omega) fun c _=>hn c
    rw [<- h1]
    congr 2
    split<;>simp [cap]
  . intro x hx;rcases List.mem_append.1 hx with hx|hx
    . split at hx
      . cases hx
      . rw [List.mem_singleton] at hx;omega
    . obtain ⟨c,_,rfl⟩:=List.mem_map.1 hx;exact cap_nonneg (hn c)
theorem LV_cap (d:TR) (place fr fg:Int):LV d place fr fg=cap (LT d place fr fg):=leastV_cap d place _ fr fg
theorem fewU_congr {f f':Int->Int->Int} {c:Int} (h:∀ g:Int,f c g=f' c g) (p:Int):fewU f c p=fewU f' c p:=by
 unfold fewU stepU;simp only [h]
theorem LU_deep {d:TR} {place:Int} (hd:RdOK d place):∀ (m n:Nat) (fr:Int) (fg:Int),0<=fr->fr<d.1.2.1.length->(d.1.2.1.length:Int) - fr<=m->(d.1.2.1.length:Int) - fr<=n->LU d place m fr fg=LU d place n fr fg:=by
 intro m
 induction m with
 | zero=>intro n fr fg h0 h h1;omega
 | succ m ih =>
  intro n fr fg h0 h h1 h2;cases n with
  | zero=>omega
  | succ n =>
   have hk:=(hd.kids fr.toNat (by omega)).2;have e:((d.2.1.getD fr.toNat []).map fun c=>fewU (LU d place m) c fg)=(d.2.1.getD fr.toNat []).map fun c=>fewU (LU d place n) c fg:=by
    apply List.map_congr_left;intro c hc;have:=hk c hc;exact fewU_congr (fun g=>ih n c g (by omega) (by omega) (by omega) (by omega)) fg
   simp only [LU];rw [e]
theorem LT_eq {d:TR} {place:Int} (hd:RdOK d place) {fr fg:Int} (h0:0<=fr) (h:fr<d.1.2.1.length) :
 LT d place fr fg=(if fitsV d.1 place fr fg then 0 else 1000)+((d.2.1.getD fr.toNat []).map fun c=>fewU (LT d place) c fg).sum:=by
 have e:LT d place fr fg=LU d place (d.1.2.1.length+1) fr fg:=LU_deep hd _ _ fr fg h0 h (by omega) (by omega);rw [e];rfl
def parN (t:TREE) (i:Nat):Nat:=(parentAt t i).toNat
def costV (t:TREE) (l:List Int):Int:=sumTo t.2.1.length fun i=>if i=0 then 0 else if l.getD i 0=l.getD (parN t i) 0 then 0 else 1
def unfitV (t:TREE) (place:Int) (l:List Int):Int:=sumTo t.2.1.length fun i=>if fitsV t place i (l.getD i 0) then 0 else 1000
def slackV (d:TR) (place:Int) (l:List Int) (i:Nat):Int:=if i=0 then 0 else stepU (LT d place) i (l.getD i 0) (l.getD (parN d.1 i) 0) - fewU (LT d place) i (l.getD (parN d.1 i) 0)
structure KidsOK (d:TR):Prop where
 own:∀ i,i<d.1.2.1.length->∀ c∈d.2.1.getD i [],0<c/\c<d.1.2.1.length/\parN d.1 c.toNat=i
 mem:∀ c:Nat,0<c->c<d.1.2.1.length->(c:Int)∈d.2.1.getD (parN d.1 c) []
 sum:∀ G:Int->Int,sumTo d.1.2.1.length (fun i=>((d.2.1.getD i []).map G).sum)=sumTo d.1.2.1.length fun c=>if c=0 then 0 else G c
theorem tele {d:TR} {place:Int} (hd:RdOK d place) (hk:KidsOK d) (hn:0<d.1.2.1.length) (l:List Int) :
 costV d.1 l+unfitV d.1 place l=LT d place 0 (l.getD 0 0)+sumTo d.1.2.1.length (slackV d place l):=by
 obtain ⟨G,hG⟩:∃ G:Int->Int,G=fun c=>fewU (LT d place) c (l.getD (parN d.1 c.toNat) 0):=⟨_,rfl⟩
 have h1:sumTo d.1.2.1.length (fun i=>LT d place i (l.getD i 0))=unfitV d.1 place l+sumTo d.1.2.1.length (fun c=>if c=0 then 0 else G c):=by
  rw [<- hk.sum G];unfold unfitV;rw [<- sumTo_add];refine sumTo_congr fun i hi=>?_
  rw [LT_eq hd (by omega) (by omega),Int.toNat_natCast]
  congr 2
  refine List.map_congr_left fun c hc=>?_
  rw [hG]
  try dsimp only
  rw [(hk.own i hi c hc).2.2]
 have h2:sumTo d.1.2.1.length (fun i=>slackV d place l i+(if i=0 then 0 else G i))+sumTo d.1.2.1.length (fun i=>if i=0 then LT d place 0 (l.getD 0 0) else 0) =
  sumTo d.1.2.1.length (fun i=>LT d place i (l.getD i 0))+costV d.1 l:=by
  unfold costV;rw [<- sumTo_add,<- sumTo_add];refine sumTo_congr fun i hi=>?_
  unfold slackV stepU
  by_cases e:i=0
  . subst e;simp
  . simp only [if_neg e,hG,Int.toNat_natCast];split<;>omega
 rw [sumTo_add,sumTo_first hn] at h2;omega
theorem slackV_nonneg (d:TR) (place:Int) {l:List Int} {i:Nat} (h:0<=l.getD i 0/\l.getD i 0<=9):0<=slackV d place l i:=by
 unfold slackV;split
 . omega
 . have:=minU_le (fun g=>stepU (LT d place) i (g:Int) (l.getD (parN d.1 i) 0)) 9 (l.getD i 0).toNat (by omega)
   try dsimp only at this
   rw [Int.toNat_of_nonneg h.1] at this;unfold fewU;omega
theorem costV_le {t:TREE} (l:List Int):costV t l<=t.2.1.length:=sumTo_le fun i _=>by split<;>(try split)<;>omega
theorem costV_nonneg {t:TREE} (l:List Int):0<=costV t l:=sumTo_nonneg fun i _=>by split<;>(try split)<;>omega
theorem unfitV_nonneg {t:TREE} {place:Int} (l:List Int):0<=unfitV t place l:=sumTo_nonneg fun i _=>by split<;>omega
structure VC (t:TREE) (place:Int) (l:List Int):Prop where
 len:l.length=t.2.1.length
 fig:∀ x∈l,0<=x/\x<=9
 fit:∀ i:Nat,i<t.2.1.length->fitsV t place i (l.getD i 0)=true
structure Best (t:TREE) (place:Int) (l:List Int):Prop where
 vc:VC t place l
 few:∀ l',VC t place l'->costV t l<=costV t l'
theorem VC.at {t:TREE} {place:Int} {l:List Int} (h:VC t place l) {i:Nat} (hi:i<t.2.1.length):0<=l.getD i 0/\l.getD i 0<=9:=h.fig _ (getD_mem (by rw [h.len];exact hi))
theorem unfit_iff {t:TREE} {place:Int} {l:List Int}:unfitV t place l=0<->∀ i:Nat,i<t.2.1.length->fitsV t place i (l.getD i 0)=true:=by
 constructor
 . intro h i hi;have:=sumTo_zero (n:=t.2.1.length) (fun i _=>by split<;>omega) h i hi
   try dsimp only at this
   split at this
   . assumption
   . omega
 . intro h;exact sumTo_all0 fun i hi=>if_pos (h i hi)
theorem unfit_big {t:TREE} {place:Int} {l:List Int} (h:unfitV t place l≠0):1000<=unfitV t place l:=by
 obtain ⟨i,hi,hf⟩:∃ i:Nat,i<t.2.1.length/\fitsV t place i (l.getD i 0)≠true:=by
  refine Classical.byContradiction fun hc=>h (unfit_iff.2 fun i hi=>Classical.byContradiction fun hf=>hc ⟨i,hi,hf⟩)
 have:=sumTo_one (n:=t.2.1.length) (f:=fun i=>if fitsV t place i (l.getD i 0) then 0 else 1000) (fun i _=>by split<;>omega) hi
 try dsimp only at this
 rw [if_neg hf] at this;exact this
theorem tight {d:TR} {place:Int} (hp:ParOK d.1):∀ (k:Nat),k<=d.1.2.1.length->∃ l:List Int,l.length=k/\(∀ x∈l,0<=x/\x<=9)/\(0<k->LT d place 0 (l.getD 0 0)=minU (fun g=>LT d place 0 g) 9)/\∀ i,i<k->slackV d place l i=0
 | 0,_=>⟨[],rfl,fun _ h=>(by cases h),fun h=>absurd h (Nat.lt_irrefl 0),fun i h=>by omega⟩
 | k+1,hk=>by
  obtain ⟨l,h1,h2,h3,h4⟩:=tight (place:=place) hp k (by omega);have hget:∀ (i:Nat) (x:Int),i<k->(l++[x]).getD i 0=l.getD i 0:=fun i x hi=>by
   rw [List.getD_eq_getElem?_getD,List.getD_eq_getElem?_getD,List.getElem?_append_left (by omega)]
  have hlast:∀ x:Int,(l++[x]).getD k 0=x:=fun x=>by
   rw [List.getD_eq_getElem?_getD,List.getElem?_append_right (by omega),h1,Nat.sub_self];rfl
  have hfig:∀ g:Nat,g<=9->∀ x∈l++[(g:Int)],0<=x/\x<=9:=fun g hg x hx=>by
   rcases List.mem_append.1 hx with hx|hx
   . exact h2 x hx
   . rw [List.mem_singleton] at hx;omega
  have hpar:∀ i,0<i->i<k+1->parN d.1 i<i:=fun i hi hik=>by
   have:=hp.par i hi (by omega);unfold parN;omega
  by_cases e:k=0
  . subst e;obtain ⟨g,hg,he⟩:=minU_at (fun g=>LT d place 0 g) 9;refine ⟨l++[(g:Int)],by simp [h1],hfig g hg,fun _=>by rw [hlast];exact he.symm,fun i hi=>?_⟩;obtain rfl:i=0:=by omega
    unfold slackV;rw [if_pos rfl]
  . obtain ⟨g,hg,he⟩:=minU_at (fun g=>stepU (LT d place) k (g:Int) (l.getD (parN d.1 k) 0)) 9;refine ⟨l++[(g:Int)],by simp [h1],hfig g hg,fun _=>by rw [hget 0 _ (by omega)];exact h3 (by omega),fun i hi=>?_⟩
    by_cases ei:i=k
    . subst ei;unfold slackV;rw [if_neg e,hlast,hget _ _ (hpar i (by omega) (by omega))];unfold fewU;rw [he];omega
    . have:=h4 i (by omega);unfold slackV at this ⊢;split
      . rfl
      . rename_i e0;rw [if_neg e0] at this;rw [hget i _ (by omega),hget _ _ (by have:=hpar i (by omega) hi;omega)];exact this
theorem min_root {d:TR} {place:Int} {l:List Int} (h:0<=l.getD 0 0/\l.getD 0 0<=9):minU (fun g=>LT d place 0 g) 9<=LT d place 0 (l.getD 0 0):=by
 have:=minU_le (fun g=>LT d place 0 g) 9 (l.getD 0 0).toNat (by omega)
 try dsimp only at this
 rwa [Int.toNat_of_nonneg h.1] at this
structure Ground (d:TR) (place:Int):Prop where
 rd:RdOK d place
 kids:KidsOK d
 par:ParOK d.1
 pos:0<d.1.2.1.length
 few:d.1.2.1.length<=8
 figs:∀ i:Nat,i<d.1.2.1.length -> -1<=seenAt d.1 i place/\seenAt d.1 i place<=9
theorem fitsV_iff {t:TREE} {place:Int} {i fg:Int}:fitsV t place i fg=true<->seenAt t i place = -1\/seenAt t i place=fg:=by
 unfold fitsV;simp
theorem some_vc {d:TR} {place:Int} (h:Ground d place):∃ l,VC d.1 place l:=by
 refine ⟨(List.range d.1.2.1.length).map fun (i:Nat)=>if seenAt d.1 i place = -1 then 0 else seenAt d.1 i place,by simp,fun x hx=>?_,fun i hi=>?_⟩
 . obtain ⟨i,hi,rfl⟩:=List.mem_map.1 hx;have:=h.figs i (by simpa using hi);split<;>omega
 . rw [fitsV_iff];have e:((List.range d.1.2.1.length).map fun (i:Nat)=>if seenAt d.1 i place = -1 then 0 else seenAt d.1 i place).getD i 0=if seenAt d.1 i place = -1 then 0 else seenAt d.1 i place:=by
    rw [List.getD_eq_getElem?_getD,List.getElem?_map,List.getElem?_range hi];rfl
   rw [e];split
   . exact .inl (by assumption)
   . exact .inr rfl
theorem root_min {d:TR} {place:Int} (h:Ground d place):∃ l,Best d.1 place l/\costV d.1 l=minU (fun g=>LT d place 0 g) 9:=by
 obtain ⟨l,h1,h2,h3,h4⟩:=tight (d:=d) (place:=place) h.par d.1.2.1.length (Nat.le_refl _);have ht:=tele h.rd h.kids h.pos l;rw [h3 h.pos,sumTo_all0 (f:=slackV d place l) h4,Int.add_zero] at ht;have hlow:∀ l',VC d.1 place l'->minU (fun g=>LT d place 0 g) 9<=costV d.1 l':=fun l' hl'=>by
  have ht':=tele h.rd h.kids h.pos l';rw [unfit_iff.2 hl'.fit,Int.add_zero] at ht';have h5:=min_root (d:=d) (place:=place) (hl'.at h.pos);have h6:=sumTo_nonneg (n:=d.1.2.1.length) (f:=slackV d place l') fun i hi=>slackV_nonneg d place (hl'.at hi)
  omega
 obtain ⟨l0,hl0⟩:=some_vc h;have h7:=hlow l0 hl0;have h8:=costV_le (t:=d.1) l0;have h9:=h.few;have hu:unfitV d.1 place l=0:=Classical.byContradiction fun hc=>by
  have:=unfit_big hc;have:=costV_nonneg (t:=d.1) l;omega
 rw [hu,Int.add_zero] at ht;exact ⟨l,⟨⟨h1,h2,unfit_iff.1 hu⟩,fun l' hl'=>by rw [ht];exact hlow l' hl'⟩,ht⟩
theorem root_small {d:TR} {place:Int} (h:Ground d place):minU (fun g=>LT d place 0 g) 9<=8:=by
 obtain ⟨l,_,e⟩:=root_min h;have:=costV_le (t:=d.1) l;have:=h.few;omega
theorem errsV_eq {b:Nat} {d:TR} {place:Int} (h:Ground d place):errsV (b,d,place)=minU (fun g=>LT d place 0 g) 9:=by
 have h1:=root_small h;have e:errsV (b,d,place)=(List.range (9+1)).foldl (fun n (g:Nat)=>if LV d place 0 g<n then LV d place 0 g else n) 1000:=rfl;rw [e,few_cap (s:=fun g:Nat=>LV d place 0 g) (u:=fun g:Nat=>LT d place 0 g) 9 fun g _=>LV_cap d place 0 g]
 unfold cap;rw [if_pos (by omega)]
theorem ok_iff {b:Nat} {d:TR} {place:Int} (h:Ground d place) {l:List Int} (hl:l.length=d.1.2.1.length) (hf:∀ x∈l,0<=x/\x<=9) :
 (∀ j,j<l.length->okV (b,d,place) (l.take j) (l.getD j 0)=true)<->Best d.1 place l:=by
 have hat:∀ i,i<d.1.2.1.length->0<=l.getD i 0/\l.getD i 0<=9:=fun i hi=>hf _ (getD_mem (by omega))
 have ht:=tele h.rd h.kids h.pos l;have hsm:=root_small h;obtain ⟨l1,hb1,hc1⟩:=root_min h;have hsl:∀ i,i<d.1.2.1.length->0<=slackV d place l i:=fun i hi=>slackV_nonneg d place (hat i hi)
 have hs0:=sumTo_nonneg (n:=d.1.2.1.length) hsl;have hmr:=min_root (d:=d) (place:=place) (hat 0 h.pos);have hun:=unfitV_nonneg (t:=d.1) (place:=place) l;have hco:=costV_nonneg (t:=d.1) l;have htake:∀ i,0<i->i<l.length->l.take i≠[]:=fun i h0 hi e=>by
  have:=congrArg List.length e;rw [List.length_take,List.length_nil,Nat.min_eq_left (by omega)] at this;omega
 have hlen:∀ i,i<l.length->(l.take i).length=i:=fun i hi=>by simp;omega
 have hpar:∀ i,0<i->i<l.length->parN d.1 i<i:=fun i h0 hi=>by
  have:=h.par.par i h0 (by omega);unfold parN;omega
 have hgt:∀ i,0<i->i<l.length->(l.take i).getD (parentAt d.1 i).toNat 0=l.getD (parN d.1 i) 0:=fun i h0 hi=>by
  have:=hpar i h0 hi;show (l.take i).getD (parN d.1 i) 0=_;rw [List.getD_eq_getElem?_getD,List.getD_eq_getElem?_getD,List.getElem?_take,if_pos this]
 have e0:okV (b,d,place) (l.take 0) (l.getD 0 0)=(cap (LT d place 0 (l.getD 0 0))==minU (fun g=>LT d place 0 g) 9):=by
  unfold okV;rw [if_pos (List.take_zero),errsV_eq h];show (LV d place 0 (l.getD 0 0)==_)=_;rw [LV_cap]
 have ei:∀ i,0<i->i<l.length->okV (b,d,place) (l.take i) (l.getD i 0)=(cap (stepU (LT d place) i (l.getD i 0) (l.getD (parN d.1 i) 0))==cap (fewU (LT d place) i (l.getD (parN d.1 i) 0))):=fun i h0 hi=>by
  unfold okV;rw [if_neg (htake i h0 hi),hlen i hi];show (stepOf (LV d place) i (l.getD i 0) ((l.take i).getD (parentAt d.1 i).toNat 0)==fewOf (LV d place) i ((l.take i).getD (parentAt d.1 i).toNat 0))=_;rw [hgt i h0 hi,stepOf_cap (LT_nonneg d place _ _) (LV_cap d place _ _),fewOf_cap (fun g=>LT_nonneg d place _ _) fun g=>LV_cap d place _ _]
 constructor
 . intro hok;have hroot:LT d place 0 (l.getD 0 0)=minU (fun g=>LT d place 0 g) 9:=by
    have:=hok 0 (by have:=h.pos;omega);rw [e0,beq_iff_eq] at this;unfold cap at this;split at this<;>omega
   have hall:∀ m i:Nat,i<=m->i<l.length->LT d place i (l.getD i 0)<1000/\slackV d place l i=0:=by
    intro m
    induction m with
    | zero =>
     intro i him hi;obtain rfl:i=0:=by omega
     refine ⟨?_,by unfold slackV;rw [if_pos rfl]⟩;show LT d place 0 (l.getD 0 0)<1000;omega
    | succ m ih =>
     intro i him hi
     by_cases hi0:i=0
     . exact ih i (by omega) hi
     . have hp:=hpar i (by omega) hi;have hq:=(ih (parN d.1 i) (by omega) (by omega)).1;rw [LT_eq h.rd (by omega) (by omega),Int.toNat_natCast] at hq;have hin:=h.kids.mem i (by omega) (by omega);have hle:=lsum_one (l:=(d.2.1.getD (parN d.1 i) []).map fun c=>fewU (LT d place) c (l.getD (parN d.1 i) 0)) (fun x hx=>by
        obtain ⟨c,_,rfl⟩:=List.mem_map.1 hx;exact fewU_nonneg fun g=>LT_nonneg d place _ _) (List.mem_map_of_mem hin)
       have hfw:fewU (LT d place) i (l.getD (parN d.1 i) 0)<1000:=by split at hq<;>omega
       have hs:=hok i hi;rw [ei i (by omega) hi,beq_iff_eq] at hs;have hst:stepU (LT d place) i (l.getD i 0) (l.getD (parN d.1 i) 0)=fewU (LT d place) i (l.getD (parN d.1 i) 0):=by
        unfold cap at hs;rw [if_pos hfw] at hs;split at hs<;>omega
       refine ⟨?_,by unfold slackV;rw [if_neg hi0,hst];omega⟩;unfold stepU at hst;split at hst<;>omega
   have hsum:sumTo d.1.2.1.length (slackV d place l)=0:=sumTo_all0 fun i hi=>(hall i i (Nat.le_refl _) (by omega)).2
   rw [hsum,hroot] at ht;have hu:unfitV d.1 place l=0:=Classical.byContradiction fun hc=>by
    have:=unfit_big hc;omega
   exact ⟨⟨hl,hf,unfit_iff.1 hu⟩,fun l' hl'=>by have:=hb1.few l' hl';omega⟩
 . intro hb;have h1:=hb.few l1 hb1.vc;have h2:=hb1.few l hb.vc;rw [unfit_iff.2 hb.vc.fit] at ht;have hroot:LT d place 0 (l.getD 0 0)=minU (fun g=>LT d place 0 g) 9:=by omega
   have hsum:sumTo d.1.2.1.length (slackV d place l)=0:=by omega
   have hz:=sumTo_zero hsl hsum;intro j hj
   by_cases hj0:j=0
   . subst hj0;rw [e0,beq_iff_eq,hroot];unfold cap;rw [if_pos (by omega)]
   . rw [ei j (by omega) hj,beq_iff_eq];have:=hz j (by omega);unfold slackV at this;rw [if_neg hj0] at this
     congr 1
     omega
end Go.V
namespace Go.V
def exts (fs:List Int):Nat->List Int->List (List Int)
 | 0,now=>[now]
 | k+1,now=>fs.flatMap fun g=>exts fs k (now++[g])
def prune (ok:List Int->Int->Bool) (fs:List Int):Nat->List Int->List (List Int)
 | 0,now=>[now]
 | k+1,now=>fs.flatMap fun g=>if ok now g then prune ok fs k (now++[g]) else []
theorem mem_exts {fs:List Int}:∀ {k:Nat} {now l:List Int},l∈exts fs k now<->∃ t,l=now++t/\t.length=k/\∀ x∈t,x∈fs
 | 0,now,l=>by
  simp only [exts,List.mem_singleton];constructor
  . rintro rfl;exact ⟨[],by simp,rfl,fun _ h=>by cases h⟩
  . rintro ⟨t,rfl,h,_⟩;rw [List.eq_nil_of_length_eq_zero h,List.append_nil]
 | k+1,now,l=>by
  simp only [exts,List.mem_flatMap];constructor
  . rintro ⟨g,hg,hl⟩;obtain ⟨t,rfl,h1,h2⟩:=mem_exts.1 hl;refine ⟨g :: t,by simp,by simp [h1],fun x hx=>?_⟩;rcases List.mem_cons.1 hx with rfl|hx
    . exact hg
    . exact h2 x hx
  . rintro ⟨t,rfl,h1,h2⟩;cases t with
    | nil=>cases h1
    | cons g t=>exact ⟨g,h2 g (by simp),mem_exts.2 ⟨t,by simp,by simpa using h1,fun x hx=>h2 x (by simp [hx])⟩⟩
theorem filter_flatMap' {α β:Type} {p:β->Bool} {f:α->List β}:∀ (l:List α),(l.flatMap f).filter p=l.flatMap fun x=>(f x).filter p
 | []=>rfl
 | x :: l=>by rw [List.flatMap_cons,List.filter_append,List.flatMap_cons,filter_flatMap' l]
theorem flatMap_congr' {α β:Type} {f g:α->List β}:∀ {l:List α},(∀ x∈l,f x=g x)->l.flatMap f=l.flatMap g
 | [],_=>rfl
 | x :: l,h=>by rw [List.flatMap_cons,List.flatMap_cons,h x (by simp),flatMap_congr' (l:=l) fun y hy=>h y (by simp [hy])]
open Classical in
theorem prune_eq {ok:List Int->Int->Bool} {fs:List Int}:∀ (k:Nat) (now:List Int),prune ok fs k now=(exts fs k now).filter fun l=>decide (∀ j,now.length<=j->j<l.length->ok (l.take j) (l.getD j 0)=true)
 | 0,now=>by
  simp only [prune,exts];rw [List.filter_cons_of_pos]
  . rfl
  . rw [decide_eq_true_eq];intro j h1 h2;omega
 | k+1,now=>by
  simp only [prune,exts];rw [filter_flatMap'];refine flatMap_congr' fun g hg=>?_
  have key:∀ l∈exts fs k (now++[g]),(∀ j,now.length<=j->j<l.length->ok (l.take j) (l.getD j 0)=true)<->ok now g=true/\∀ j,(now++[g]).length<=j->j<l.length->ok (l.take j) (l.getD j 0)=true:=by
   intro l hl;obtain ⟨t,rfl,h1,_⟩:=mem_exts.1 hl;have e1:(now++[g]++t).take now.length=now:=by rw [List.append_assoc,List.take_left]
   have e2:(now++[g]++t).getD now.length 0=g:=by
    rw [List.append_assoc,List.getD_eq_getElem?_getD,List.getElem?_append_right (Nat.le_refl _),Nat.sub_self];rfl
   constructor
   . intro h;refine ⟨?_,fun j h2 h3=>h j (by rw [List.length_append,List.length_singleton] at h2;omega) h3⟩;have:=h now.length (Nat.le_refl _) (by simp only [List.length_append,List.length_singleton];omega)
     rwa [e1,e2] at this
   . rintro ⟨h2,h3⟩ j h4 h5
     by_cases e:j=now.length
     . subst e;rw [e1,e2];exact h2
     . exact h3 j (by rw [List.length_append,List.length_singleton];omega) h5
  split
  . rename_i hok;rw [prune_eq k];refine List.filter_congr fun l hl=>?_
    rw [decide_eq_decide,key l hl];exact ⟨fun h=>⟨hok,h⟩,fun h=>h.2⟩
  . rename_i hok;refine (List.filter_eq_nil_iff.2 fun l hl=>?_).symm;rw [decide_eq_true_eq,key l hl];exact fun h=>hok h.1
theorem exts_filter {fs:List Int} {q:Int->Bool}:∀ (k:Nat) (now:List Int),exts (fs.filter q) k now=(exts fs k now).filter fun l=>(l.drop now.length).all q
 | 0,now=>by
  simp only [exts];rw [List.filter_cons_of_pos]
  . rfl
  . rw [List.drop_length];rfl
 | k+1,now=>by
  simp only [exts];rw [filter_flatMap'];have h:∀ l:List Int,(l.filter q).flatMap (fun g=>exts (fs.filter q) k (now++[g]))=l.flatMap fun g=>(exts fs k (now++[g])).filter fun l=>(l.drop now.length).all q:=by
   intro l
   induction l with
   | nil=>rfl
   | cons g l ih =>
    rw [List.flatMap_cons,<- ih];have key:∀ l∈exts fs k (now++[g]),((l.drop now.length).all q)=(q g && (l.drop (now++[g]).length).all q):=by
     intro l hl;obtain ⟨t,rfl,h1,_⟩:=mem_exts.1 hl;rw [List.append_assoc,List.drop_left,<- List.append_assoc,List.drop_left];rfl
    by_cases hq:q g=true
    . rw [List.filter_cons_of_pos hq,List.flatMap_cons,exts_filter k]
      congr 1
      refine List.filter_congr fun l hl=>?_
      rw [key l hl,hq,Bool.true_and]
    . rw [List.filter_cons_of_neg hq];have:((exts fs k (now++[g])).filter fun l=>(l.drop now.length).all q)=[]:=List.filter_eq_nil_iff.2 fun l hl=>by
       rw [key l hl];simp [hq]
      rw [this,List.nil_append]
  exact h fs
def figs:List Int:=(List.range 10).map fun (g:Nat)=>(g:Int)
theorem mem_figs {x:Int}:x∈figs<->0<=x/\x<=9:=by
 unfold figs;simp only [List.mem_map,List.mem_range];constructor
 . rintro ⟨g,h,rfl⟩;omega
 . intro h;exact ⟨x.toNat,by omega,by omega⟩
theorem putV_prune (sm:SM):∀ (k:Nat) (now:List Int),putV sm k now=prune (okV sm) figs k now
 | 0,_=>rfl
 | k+1,now=>by
  simp only [putV,prune,figs];rw [List.flatMap_map];exact flatMap_congr' fun g _=>by rw [putV_prune sm k];rfl
open Classical in
theorem stor_eq {t:TREE} {place:Int} (h:Ground (madeT t) place):storT t place=(exts figs t.2.1.length []).filter fun l=>decide (Best t place l):=by
 unfold storT putAll;rw [putV_prune,prune_eq];show (exts figs (t.2.1.length - 0) []).filter _=_;rw [Nat.sub_zero];refine List.filter_congr fun l hl=>?_
 obtain ⟨u,hu,h1,h2⟩:=mem_exts.1 hl;rw [List.nil_append] at hu;subst hu;rw [decide_eq_decide];refine Iff.trans ?_ (ok_iff (b:=0) h (l:=l) h1 fun x hx=>mem_figs.1 (h2 x hx));exact ⟨fun q j hj=>q j (Nat.zero_le _) hj,fun q j _ hj=>q j hj⟩
theorem stor_mem {t:TREE} {place:Int} (h:Ground (madeT t) place) {l:List Int}:l∈storT t place<->Best t place l:=by
 rw [stor_eq h];simp only [List.mem_filter,decide_eq_true_eq];refine ⟨fun q=>q.2,fun q=>⟨mem_exts.2 ⟨l,by simp,q.vc.len,fun x hx=>mem_figs.2 (q.vc.fig x hx)⟩,q⟩⟩
theorem errs_eq {t:TREE} {place:Int} (h:Ground (madeT t) place):∃ l,Best t place l/\errsT t place=costV t l:=by
 obtain ⟨l,h1,h2⟩:=root_min h;refine ⟨l,h1,?_⟩;unfold errsT smT;rw [errsV_eq h,<- h2];rfl
def rowsSum (xss:List (List Int)) (G:Int->Int):Int:=sumTo xss.length fun r=>((xss.getD r []).map G).sum
theorem getD_setL {α:Type} (l:List α) (p r:Nat) (v z:α):(l.set p v).getD r z=if r=p/\p<l.length then v else l.getD r z:=by
 rw [List.getD_eq_getElem?_getD,List.getD_eq_getElem?_getD,List.getElem?_set]
 by_cases e:p=r
 . subst e
   by_cases h:p<l.length
   . simp [h]
   . simp [h]
 . rw [if_neg e,if_neg fun h=>e h.1.symm]
theorem rowsSum_set {xss:List (List Int)} {G:Int->Int} {p:Nat} {x:Int} (hp:p<xss.length):rowsSum (xss.set p (xss.getD p []++[x])) G=rowsSum xss G+G x:=by
 unfold rowsSum;rw [List.length_set,<- sumTo_upd hp];refine sumTo_congr fun r hr=>?_
 rw [getD_setL]
 by_cases e:r=p
 . subst e;rw [if_pos ⟨rfl,hp⟩,if_pos rfl,List.map_append,List.sum_append];simp
 . rw [if_neg fun h=>e h.1,if_neg e]
theorem made_len:∀ (cs:List NODE) (i:Nat) (xss:List (List Int)),(madeG cs i xss).length=xss.length
 | [],_,_=>rfl
 | c :: cs,i,xss=>by
  unfold madeG;rw [made_len cs];split
  . rw [List.length_set]
  . rfl
theorem made_sum {G:Int->Int}:∀ (cs:List NODE) (i:Nat) (xss:List (List Int)),(∀ (j:Nat) c,cs[j]? = some c->0<i+j->0<=c.1/\c.1<xss.length) ->
 rowsSum (madeG cs i xss) G+sumTo i (fun c=>if c=0 then 0 else G c)=rowsSum xss G+sumTo (i+cs.length) fun c=>if c=0 then 0 else G c
 | [],i,xss,_=>rfl
 | c :: cs,i,xss,h=>by
  unfold madeG;have h0:=h 0 c rfl;have e:sumTo (i+(c :: cs).length) (fun c=>if c=0 then 0 else G c)=sumTo ((i+1)+cs.length) fun c=>if c=0 then 0 else G c:=by
   rw [List.length_cons]
   congr 1
   omega
  rw [e];have ih:=made_sum (G:=G) cs (i+1) (if 0<i then xss.set c.1.toNat (xss.getD c.1.toNat []++[(i:Int)]) else xss) fun j c' hj hp=>by
   have:=h (j+1) c' (by simpa using hj) (by omega);split
   . rw [List.length_set];exact this
   . exact this
  simp only [sumTo] at ih
  by_cases hi:0<i
  . rw [if_pos hi,rowsSum_set (by have:=h0 (by omega);omega)] at ih;rw [if_neg (by omega)] at ih;rw [if_pos hi];omega
  . rw [if_neg hi] at ih;rw [if_pos (by omega)] at ih;rw [if_neg hi];omega
theorem made_mem {x:Int} {r:Nat}:∀ (cs:List NODE) (i:Nat) (xss:List (List Int)),(∀ (j:Nat) c,cs[j]? = some c->0<i+j->0<=c.1/\c.1<xss.length) ->
 (x∈(madeG cs i xss).getD r []<->x∈xss.getD r []\/∃ (j:Nat) (c:NODE),cs[j]? = some c/\0<i+j/\x=((i+j:Nat):Int)/\c.1.toNat=r)
 | [],i,xss,_=>by
  unfold madeG;constructor
  . exact .inl
  . rintro (h|⟨j,c,h,_⟩)
    . exact h
    . simp at h
 | c :: cs,i,xss,h=>by
  unfold madeG;have h0:=h 0 c rfl;rw [made_mem cs (i+1) _ fun j c' hj hp=>by
   have:=h (j+1) c' (by simpa using hj) (by omega);split
   . rw [List.length_set];exact this
   . exact this]
  have e1:(x∈(if 0<i then xss.set c.1.toNat (xss.getD c.1.toNat []++[(i:Int)]) else xss).getD r [])<->x∈xss.getD r []\/(0<i/\x=(i:Int)/\c.1.toNat=r):=by
   split
   . rename_i hi;rw [getD_setL];have:=h0 (by omega)
     by_cases er:r=c.1.toNat
     . subst er;rw [if_pos ⟨rfl,by omega⟩];simp [hi]
     . rw [if_neg fun h=>er h.1];exact ⟨.inl,fun h=>h.elim id fun h=>absurd h.2.2.symm er⟩
   . rename_i hi;exact ⟨.inl,fun h=>h.elim id fun h=>absurd h.1 hi⟩
  rw [e1];constructor
  . rintro ((h1|⟨h1,h2,h3⟩)|⟨j,c',h1,h2,h3,h4⟩)
    . exact .inl h1
    . exact .inr ⟨0,c,rfl,by omega,by simpa using h2,h3⟩
    . exact .inr ⟨j+1,c',by simpa using h1,by omega,by rw [h3];congr 1;omega,h4⟩
  . rintro (h1|⟨j,c',h1,h2,h3,h4⟩)
    . exact .inl (.inl h1)
    . cases j with
      | zero=>cases h1;exact .inl (.inr ⟨by omega,by simpa using h3,h4⟩)
      | succ j=>exact .inr ⟨j,c',by simpa using h1,by omega,by rw [h3];congr 1;omega,h4⟩
structure TreeP (t:TREE) (place:Int):Prop where
 len:1<=t.2.1.length/\t.2.1.length<=8
 par:∀ i,0<i->i<t.2.1.length->0<=parentAt t i/\parentAt t i<i
 pos:0<=place
 seen:∀ i,i<t.2.1.length->place<((t.2.1.getD i (0,([],()))).2.1).length
 figs:∀ i:Nat,i<t.2.1.length -> -1<=seenAt t i place/\seenAt t i place<=9
theorem TreeP.parIn {t:TREE} {place:Int} (h:TreeP t place):ParIn t.2.1:=fun j c hj h0=>by
 have hlt:=(List.getElem?_eq_some_iff.1 hj).1;have:=h.par j h0 hlt;unfold parentAt at this;rw [List.getD_eq_getElem?_getD,hj] at this;simp only [Option.getD_some] at this;omega
theorem TreeP.preT {t:TREE} {place:Int} (h:TreeP t place):PreT t:=⟨by have:=h.len;omega,h.parIn⟩
theorem rep_getD (n r:Nat):(List.replicate n ([]:List Int)).getD r []=[]:=by
 rw [List.getD_eq_getElem?_getD,List.getElem?_replicate];split<;>rfl
theorem made_iff {t:TREE} {place:Int} (h:TreeP t place) {x:Int} {r:Nat}:x∈(madeV t.2.1).getD r []<->∃ j:Nat,0<j/\j<t.2.1.length/\x=j/\parN t j=r:=by
 unfold madeV;rw [made_mem t.2.1 0 _ fun j c hj hp=>by rw [List.length_replicate];exact h.parIn j c hj (by omega),rep_getD];constructor
 . rintro (h1|⟨j,c,h1,h2,h3,h4⟩)
   . cases h1
   . refine ⟨j,by omega,(List.getElem?_eq_some_iff.1 h1).1,by simpa using h3,?_⟩;unfold parN parentAt;rw [List.getD_eq_getElem?_getD,h1];exact h4
 . rintro ⟨j,h1,h2,rfl,h4⟩;refine .inr ⟨j,t.2.1[j],List.getElem?_eq_getElem h2,by omega,by simp,?_⟩;unfold parN parentAt at h4;rw [List.getD_eq_getElem?_getD,List.getElem?_eq_getElem h2] at h4;exact h4
theorem made_sum' {t:TREE} {place:Int} (h:TreeP t place) (G:Int->Int):sumTo t.2.1.length (fun i=>(((madeV t.2.1).getD i []).map G).sum)=sumTo t.2.1.length fun c=>if c=0 then 0 else G c:=by
 have:=made_sum (G:=G) t.2.1 0 (List.replicate t.2.1.length []) fun j c hj hp=>by rw [List.length_replicate];exact h.parIn j c hj (by omega)
 have e0:rowsSum (List.replicate t.2.1.length []) G=0:=sumTo_all0 fun r _=>by rw [rep_getD];rfl
 rw [e0,Nat.zero_add,Int.zero_add] at this;unfold rowsSum at this;rw [made_len,List.length_replicate] at this;simp only [sumTo,Int.add_zero] at this;exact this
theorem TreeP.kids {t:TREE} {place:Int} (h:TreeP t place):KidsOK (madeT t) where
 own i hi c hc:=by
  obtain ⟨j,h1,h2,rfl,h4⟩:=(made_iff h).1 hc;exact ⟨by omega,by show (j:Int)<(t.2.1.length:Nat);omega,h4⟩
 mem c h0 hc:=(made_iff h).2 ⟨c,h0,hc,rfl,rfl⟩
 sum G:=made_sum' h G
theorem lsum_map_one (l:List Int):(l.map fun _=>(1:Int)).sum=l.length:=by
 induction l with
 | nil=>rfl
 | cons x l ih=>rw [List.map_cons,List.sum_cons,ih,List.length_cons];omega
theorem TreeP.rd {t:TREE} {place:Int} (h:TreeP t place):RdOK (madeT t) place where
 len:=by show t.2.1.length<=1000;have:=h.len;omega
 made:=by show (madeV t.2.1).length=t.2.1.length;unfold madeV;rw [made_len,List.length_replicate]
 kids i hi:=by
  constructor
  . have h1:=made_sum' h fun _=>1
    have h2:=sumTo_one (n:=t.2.1.length) (f:=fun i=>(((madeV t.2.1).getD i []).map fun _=>(1:Int)).sum) (fun i _=>by rw [lsum_map_one];omega) hi
    try dsimp only at h2
    rw [lsum_map_one,h1] at h2;have h3:=sumTo_le (n:=t.2.1.length) (f:=fun c=>if c=0 then 0 else (1:Int)) fun i _=>by split<;>omega
    have:=h.len;show ((madeV t.2.1).getD i []).length<=1000;omega
  . intro c hc;obtain ⟨j,h1,h2,rfl,h4⟩:=(made_iff h).1 hc;have:=h.par j h1 h2;unfold parN at h4;exact ⟨by omega,by show (j:Int)<(t.2.1.length:Nat);omega⟩
 pos:=h.pos
 seen:=h.seen
theorem TreeP.ground {t:TREE} {place:Int} (h:TreeP t place):Ground (madeT t) place where
 rd:=h.rd
 kids:=h.kids
 par:=⟨h.par⟩
 pos:=h.len.1
 few:=h.len.2
 figs:=h.figs
theorem TreeP.preE {t:TREE} {place:Int} (h:TreeP t place):PreE t place:=⟨h.preT,h.rd,h.len.1⟩
theorem TreeP.preS {t:TREE} {place:Int} (h:TreeP t place):PreS t place:=⟨h.preT,⟨h.rd,⟨h.par⟩,h.len.1,h.len.2⟩⟩
end Go.V
namespace Go.V
open Go.Proofs
theorem inbT {i:Int} {n:Nat} (h1:0<=i) (h2:i<n):inb i n=true:=inb_iff.2 ⟨h1,h2⟩
theorem dT {p:Prop} [Decidable p] (h:p):decide p=true:=decide_eq_true h
theorem dF {p:Prop} [Decidable p] (h:¬ p):decide p=false:=decide_eq_false h
theorem eT {a b:Int} (h:a=b):(a==b)=true:=by simp [h]
theorem eF {a b:Int} (h:a≠b):(a==b)=false:=by simp [h]
theorem nT {a b:Int} (h:a≠b):(a != b)=true:=by simp [h]
theorem nF {a b:Int} (h:a=b):(a != b)=false:=by simp [h]
theorem fitsT {α:Type} {xs ys:List α} (h:xs.length+ys.length<1000000):fits xs ys=true:=by unfold fits;simp [h]
theorem succ_of {m n:Nat} (h:m<n):∃ k,n=k+1:=⟨n - 1,by omega⟩
theorem wn {i:Nat} (h:i<1000000000):IntKind.i64.wrap ((i:Int)+1)=((i+1:Nat):Int):=by rw [wr (by omega) (by omega)];omega
def costN (t:TREE) (k:Nat) (l:List Int):Int:=sumTo k fun i=>if i=0 then 0 else if l.getD i 0=l.getD (parN t i) 0 then 0 else 1
theorem costN_mono {t:TREE} {l:List Int} {j k:Nat} (h:j<=k):costN t j l<=costN t k l:=by
 obtain ⟨d,rfl⟩:∃ d,k=j+d:=⟨k - j,by omega⟩
 clear h
 induction d with
 | zero=>exact Int.le_refl _
 | succ d ih =>
  have e:costN t (j+(d+1)) l=costN t (j+d) l+(if j+d=0 then 0 else if l.getD (j+d) 0=l.getD (parN t (j+d)) 0 then 0 else 1):=rfl;rw [e];split<;>(try split)<;>omega
theorem costN_congr {t:TREE} {l l':List Int} {k:Nat} (hp:∀ i,0<i->i<k->parN t i<k) (h:∀ i,i<k->l.getD i 0=l'.getD i 0):costN t k l=costN t k l' :=
 sumTo_congr fun i hi=>by
  by_cases e:i=0
  . rw [if_pos e,if_pos e]
  . rw [if_neg e,if_neg e,h i hi,h _ (hp i (by omega) hi)]
theorem costN_nonneg {t:TREE} {k:Nat} (l:List Int):0<=costN t k l:=sumTo_nonneg fun i _=>by split<;>(try split)<;>omega
theorem par_lt {t:TREE} {place:Int} (h:TreeP t place) {i:Nat} (h0:0<i) (hi:i<t.2.1.length):parN t i<i:=by
 have:=h.par i h0 hi;unfold parN;omega
def hasF (t:TREE) (place:Int) (f:Int):Bool:=(List.range t.2.1.length).any fun i=>seenAt t i place==f
def metTo (t:TREE) (place:Int) (k:Nat):List Int:=((List.range k).map fun (g:Nat)=>(g:Int)).filter (hasF t place)
def allTo (k:Nat):List Int:=(List.range k).map fun (g:Nat)=>(g:Int)
def readF (t:TREE) (place:Int):List Int:=if metTo t place 10=[] then figs else metTo t place 10
theorem hasF_iff {t:TREE} {place f:Int}:hasF t place f=true<->∃ i:Nat,i<t.2.1.length/\seenAt t i place=f:=by
 unfold hasF;simp [List.any_eq_true]
theorem mem_met {t:TREE} {place x:Int}:x∈metTo t place 10<->(0<=x/\x<=9)/\∃ i:Nat,i<t.2.1.length/\seenAt t i place=x:=by
 unfold metTo;rw [List.mem_filter,hasF_iff];exact and_congr_left fun _=>mem_figs
theorem allTo_succ (k:Nat):allTo (k+1)=allTo k++[(k:Int)]:=by
 unfold allTo;rw [List.range_succ,List.map_append];rfl
theorem allTo_len (k:Nat):(allTo k).length=k:=by unfold allTo;simp
def okC (t:TREE) (place most:Int) (now:List Int) (g:Int):Bool:=(decide (seenAt t now.length place<0) || g==seenAt t now.length place) && decide (costN t (now.length+1) (now++[g])<=most)
theorem okC_iff {t:TREE} {place most:Int} {now:List Int} {g:Int}:okC t place most now g=true<->(seenAt t now.length place<0\/g=seenAt t now.length place)/\costN t (now.length+1) (now++[g])<=most:=by
 unfold okC;rw [Bool.and_eq_true,Bool.or_eq_true,decide_eq_true_eq,beq_iff_eq,decide_eq_true_eq]
end Go.V
namespace Go.V
open Go.Proofs
theorem getD_map {f:Int->Int} {l:List Int} {i:Nat} (h:i<l.length):(l.map f).getD i 0=f (l.getD i 0):=by
 rw [List.getD_eq_getElem?_getD,List.getD_eq_getElem?_getD,List.getElem?_map,List.getElem?_eq_getElem h];rfl
theorem mem_getD {l:List Int} {x:Int} (h:x∈l):∃ i,i<l.length/\l.getD i 0=x:=by
 obtain ⟨i,hi,e⟩:=List.mem_iff_getElem.1 h;exact ⟨i,hi,by rw [List.getD_eq_getElem?_getD,List.getElem?_eq_getElem hi];exact e⟩
theorem best_read {t:TREE} {place:Int} (ht:TreeP t place) {l:List Int} (hb:Best t place l):∀ x∈l,x∈readF t place:=by
 intro f hf;have hv:=hb.vc;unfold readF;split
 . exact mem_figs.2 (hv.fig f hf)
 rename_i hm;refine Classical.byContradiction fun hnf=>?_
 obtain ⟨j,hj,hjf⟩:=mem_getD hf;rw [hv.len] at hj;obtain ⟨f0,hf0⟩:=List.exists_mem_of_ne_nil _ hm;obtain ⟨⟨g1,g2⟩,i0,hi0,e0⟩:=mem_met.1 hf0;have hl0:l.getD i0 0=f0:=by
  rcases fitsV_iff.1 (hv.fit i0 hi0) with h|h<;>omega
 have hne:f≠f0:=fun e=>hnf (e ▸ hf0)
 obtain ⟨i,hi0',hi,hedge⟩:∃ i,0<i/\i<t.2.1.length/\¬ (l.getD i 0=f<->l.getD (parN t i) 0=f):=by
  refine Classical.byContradiction fun hc=>?_
  have hall:∀ m i:Nat,i<=m->i<t.2.1.length->(l.getD i 0=f<->l.getD 0 0=f):=by
   intro m
   induction m with
   | zero =>
    intro i h1 h2;obtain rfl:i=0:=by omega
    exact Iff.rfl
   | succ m ih =>
    intro i h1 h2
    by_cases e:i=0
    . subst e;exact Iff.rfl
    . have hp:=par_lt ht (by omega) h2;refine Iff.trans (Classical.byContradiction fun hq=>hc ⟨i,by omega,h2,hq⟩) (ih _ (by omega) (by omega))
  have h1:=(hall j j (Nat.le_refl _) hj).1 hjf;have h2:=(hall i0 i0 (Nat.le_refl _) hi0).2 h1;omega
 have hpi:=par_lt ht hi0' hi;obtain ⟨g,hg⟩:∃ g,g=if l.getD i 0=f then l.getD (parN t i) 0 else l.getD i 0:=⟨_,rfl⟩
 have hgf:g≠f:=by
  rw [hg];split
  . rename_i h1;intro h2;exact hedge ⟨fun _=>h2,fun _=>h1⟩
  . assumption
 have hg9:0<=g/\g<=9:=by
  rw [hg];split
  . exact hv.at (by omega)
  . exact hv.at hi
 obtain ⟨φ,hφ⟩:∃ φ:Int->Int,φ=fun x=>if x=f then g else x:=⟨_,rfl⟩
 have hmap:∀ k,k<t.2.1.length->(l.map φ).getD k 0=φ (l.getD k 0):=fun k hk=>getD_map (by rw [hv.len];exact hk)
 have hvc:VC t place (l.map φ):=by
  refine ⟨by rw [List.length_map];exact hv.len,fun x hx=>?_,fun k hk=>?_⟩
  . obtain ⟨y,hy,rfl⟩:=List.mem_map.1 hx;rw [hφ];dsimp only;split
    . exact hg9
    . exact hv.fig y hy
  . rw [hmap k hk];rcases fitsV_iff.1 (hv.fit k hk) with h|h
    . exact fitsV_iff.2 (.inl h)
    . refine fitsV_iff.2 (.inr ?_);rw [hφ];dsimp only;rw [if_neg]
      . exact h
      . intro e;have:=hv.at hk;exact hnf (mem_met.2 ⟨hv.fig f hf,k,hk,by omega⟩)
 have hlt:costV t (l.map φ)<costV t l:=by
  refine sumTo_lt (fun k hk=>?_) hi ?_
  . by_cases e:k=0
    . rw [if_pos e,if_pos e];exact Int.le_refl _
    . have hp:=par_lt ht (by omega) hk;rw [if_neg e,if_neg e,hmap k hk,hmap _ (by omega)]
      by_cases e2:l.getD k 0=l.getD (parN t k) 0
      . rw [if_pos e2,e2,if_pos rfl];exact Int.le_refl _
      . rw [if_neg e2];split<;>omega
  . try dsimp only
    have hi0n:¬ i=0:=by omega
    rw [if_neg hi0n,if_neg hi0n,hmap i hi,hmap _ (by omega)];have h1:φ (l.getD i 0)=φ (l.getD (parN t i) 0):=by
     rw [hφ];dsimp only
     by_cases e:l.getD i 0=f
     . rw [if_pos e] at hg;rw [if_pos e,if_neg (by rw [<- hg];exact hgf),hg]
     . rw [if_neg e] at hg;have e2:l.getD (parN t i) 0=f:=Classical.byContradiction fun e2=>hedge ⟨fun h=>absurd h e,fun h=>absurd h e2⟩
       rw [if_neg e,if_pos e2,hg]
    have h2:l.getD i 0≠l.getD (parN t i) 0:=fun e=>hedge (by rw [e])
    rw [if_pos h1,if_neg h2];omega
 have:=hb.few _ hvc;omega
theorem flat_len_le {α:Type} {F:Int->List α} {B:Nat}:∀ {S:List Int},(∀ g∈S,(F g).length<=B)->(S.flatMap F).length<=S.length * B
 | [],_=>by simp
 | g :: S,h=>by
  rw [List.flatMap_cons,List.length_append,List.length_cons,Nat.succ_mul];have:=h g (by simp);have:=flat_len_le (S:=S) fun y hy=>h y (by simp [hy])
  omega
theorem flat_nil {α:Type} {F:Int->List α}:∀ {S:List Int},(∀ g∈S,F g=[])->S.flatMap F=[]
 | [],_=>rfl
 | g :: S,h=>by rw [List.flatMap_cons,h g (by simp),flat_nil fun y hy=>h y (by simp [hy])];rfl
theorem flat_one_le {α:Type} {F:Int->List α} {B:Nat} {own:Int}:∀ {S:List Int},S.Nodup->(∀ g∈S,g≠own->F g=[])->(∀ g∈S,(F g).length<=B)->(S.flatMap F).length<=B
 | [],_,_,_=>by simp
 | g :: S,hn,h,hB=>by
  rw [List.flatMap_cons,List.length_append];have hn':=List.nodup_cons.1 hn
  by_cases e:g=own
  . have:S.flatMap F=[]:=flat_nil fun y hy=>h y (by simp [hy]) fun e2=>hn'.1 (by rw [e,<- e2];exact hy)
    rw [this];have:=hB g (by simp);simp only [List.length_nil];omega
  . rw [h g (by simp) e];have:=flat_one_le (F:=F) (own:=own) hn'.2 (fun y hy=>h y (by simp [hy])) fun y hy=>hB y (by simp [hy])
    simp only [List.length_nil];omega
theorem figs_nodup:figs.Nodup:=by decide
theorem readF_sub (t:TREE) (place:Int):∃ q:Int->Bool,readF t place=figs.filter q:=by
 unfold readF;split
 . exact ⟨fun _=>true,(List.filter_eq_self.2 fun _ _=>rfl).symm⟩
 . exact ⟨hasF t place,rfl⟩
theorem readF_nodup (t:TREE) (place:Int):(readF t place).Nodup:=by
 obtain ⟨q,e⟩:=readF_sub t place;rw [e];exact figs_nodup.filter q
theorem readF_len (t:TREE) (place:Int):(readF t place).length<=10:=by
 obtain ⟨q,e⟩:=readF_sub t place;rw [e];exact List.length_filter_le _ _
def unread (t:TREE) (place:Int) (i:Nat):Nat:=if seenAt t i place<0 then 1 else 0
def unreads (t:TREE) (place:Int):Nat->Nat->Nat
 | 0,_=>0
 | k+1,a=>unread t place a+unreads t place k (a+1)
theorem prune_len {t:TREE} {place most:Int} {S:List Int} (hn:S.Nodup) (h1:1<=S.length):∀ (k:Nat) (now:List Int),(prune (okC t place most) S k now).length<=S.length ^ unreads t place k now.length
 | 0,now=>by simp [prune,unreads]
 | k+1,now=>by
  simp only [prune,unreads];have hstep:∀ g∈S,(if okC t place most now g then prune (okC t place most) S k (now++[g]) else []).length<=S.length ^ unreads t place k (now.length+1):=fun g _=>by
   split
   . have:=prune_len (t:=t) (place:=place) (most:=most) hn h1 k (now++[g])
     rwa [List.length_append] at this
   . exact Nat.zero_le _
  by_cases ho:seenAt t now.length place<0
  . have:=flat_len_le hstep;unfold unread;rw [if_pos ho,Nat.pow_add,Nat.pow_one];exact this
  . unfold unread;rw [if_neg ho,Nat.zero_add];refine flat_one_le (own:=seenAt t now.length place) hn (fun g _ hg=>?_) hstep;rw [if_neg fun h=>(okC_iff.1 h).1.elim (fun h=>ho h) fun h=>hg h]
theorem nodup_le:∀ {l l':List Int},l.Nodup->(∀ x∈l,x∈l')->l.length<=l'.length
 | [],_,_,_=>Nat.zero_le _
 | x :: l,l',hn,h=>by
  have hn':=List.nodup_cons.1 hn;have hx:=h x (by simp);have:=nodup_le (l:=l) (l':=l'.erase x) hn'.2 fun y hy=>(List.mem_erase_of_ne fun e=>hn'.1 (by rw [<- e];exact hy)).2 (h y (by simp [hy]))
  rw [List.length_erase_of_mem hx] at this;have h0:0<l'.length:=List.length_pos_of_mem hx;rw [List.length_cons];omega
theorem reads_count (t:TREE) (place:Int):∀ (k a:Nat),((List.range' a k).filter fun (i:Nat)=>decide (¬ seenAt t i place<0)).length+unreads t place k a=k
 | 0,_=>rfl
 | k+1,a=>by
  rw [List.range'_succ];have:=reads_count t place k (a+1);unfold unreads unread
  by_cases h:seenAt t a place<0
  . rw [List.filter_cons_of_neg (by simp;exact h),if_pos h];omega
  . rw [List.filter_cons_of_pos (by simp;omega),if_neg h,List.length_cons];omega
theorem met_le (t:TREE) (place:Int):(metTo t place 10).length+unreads t place t.2.1.length 0<=t.2.1.length:=by
 have h1:=reads_count t place t.2.1.length 0;have h2:(metTo t place 10).length<=(((List.range' 0 t.2.1.length).filter fun (i:Nat)=>decide (¬ seenAt t i place<0)).map fun (i:Nat)=>seenAt t i place).length:=by
  refine nodup_le (figs_nodup.filter _) fun x hx=>?_
  obtain ⟨h3,i,h4,h5⟩:=mem_met.1 hx;refine List.mem_map.2 ⟨i,List.mem_filter.2 ⟨?_,?_⟩,h5⟩
  . rw [List.mem_range'];exact ⟨i,h4,by omega⟩
  . simp;omega
 rw [List.length_map] at h2;omega
theorem pow_small:∀ r,r<=8->∀ u,u<=8->1<=r->r+u<=8->r ^ u<=256:=by decide
theorem pow_le' {r u v:Nat} (h1:1<=r) (h:u<=v):r ^ u<=r ^ v:=Nat.pow_le_pow_right h1 h
theorem unreads_sub (t:TREE) (place:Int):∀ (a k:Nat),unreads t place k a<=unreads t place (a+k) 0:=by
 intro a k;have h:∀ (a b k:Nat),unreads t place (a+k) b=unreads t place a b+unreads t place k (b+a):=by
  intro a
  induction a with
  | zero=>intro b k;simp [unreads]
  | succ a ih =>
   intro b k;rw [show a+1+k=(a+k)+1 by omega];simp only [unreads];rw [ih,show b+(a+1)=b+1+a by omega];omega
 have:=h a 0 k;rw [Nat.zero_add] at this;omega
theorem prune_few {t:TREE} {place most:Int} (ht:TreeP t place) (hm:metTo t place 10≠[]\/most=0):∀ k now,now.length+k=t.2.1.length->(prune (okC t place most) (readF t place) k now).length<=256:=by
 intro k now hk;have hlen:=ht.len
 by_cases he:metTo t place 10=[]
 . have hmost:most=0:=hm.resolve_left fun h=>h he
   subst hmost;have hne:∀ (k:Nat) (now:List Int),now≠[]->now.length+k=t.2.1.length->(prune (okC t place 0) (readF t place) k now).length<=1:=by
    intro k
    induction k with
    | zero=>intro now _ _;simp [prune]
    | succ k ih =>
     intro now hnow hk;simp only [prune];have hpos:0<now.length:=List.length_pos_iff.2 hnow;have hp:=par_lt ht hpos (by omega);refine flat_one_le (own:=now.getD (parN t now.length) 0) (readF_nodup t place) (fun g _ hg=>?_) fun g _=>?_
     . rw [if_neg];intro hok;have hok:=(okC_iff.1 hok).2;have:0<costN t (now.length+1) (now++[g]):=by
        have e:costN t (now.length+1) (now++[g])=costN t now.length (now++[g])+(if now.length=0 then 0 else if (now++[g]).getD now.length 0=(now++[g]).getD (parN t now.length) 0 then 0 else 1):=rfl;rw [e,if_neg (by omega)]
        have e1:(now++[g]).getD now.length 0=g:=by
         rw [List.getD_eq_getElem?_getD,List.getElem?_append_right (Nat.le_refl _),Nat.sub_self];rfl
        have e2:(now++[g]).getD (parN t now.length) 0=now.getD (parN t now.length) 0:=by
         rw [List.getD_eq_getElem?_getD,List.getD_eq_getElem?_getD,List.getElem?_append_left hp]
        rw [e1,e2,if_neg hg];have:=costN_nonneg (t:=t) (k:=now.length) (now++[g]);omega
       omega
     . split
       . exact ih _ (by simp) (by simp;omega)
       . exact Nat.zero_le _
   by_cases hnow:now=[]
   . subst hnow;cases k with
     | zero=>simp [prune]
     | succ k =>
      simp only [prune];have:=flat_len_le (S:=readF t place) (B:=1) (F:=fun g=>if okC t place 0 [] g then prune (okC t place 0) (readF t place) k ([]++[g]) else []) fun g _=>by
       try dsimp only
       split
       . exact hne k _ (by simp) (by simp at hk ⊢;omega)
       . exact Nat.zero_le _
      have:=readF_len t place;omega
   . have:=hne k now hnow hk;omega
 . have hr:readF t place=metTo t place 10:=by unfold readF;rw [if_neg he]
   have h1:1<=(metTo t place 10).length:=List.length_pos_iff.2 he;have hml:=met_le t place;have h2:=prune_len (t:=t) (place:=place) (most:=most) (readF_nodup t place) (by rw [hr];exact h1) k now;have h3:=unreads_sub t place now.length k
   rw [hk] at h3;rw [hr] at h2 ⊢;exact Nat.le_trans h2 (Nat.le_trans (pow_le' h1 h3) (pow_small _ (by omega) _ (by omega) h1 (by omega)))
open Classical in
theorem doc_cols {t:TREE} {place most:Int} (ht:TreeP t place):prune (okC t place most) (readF t place) t.2.1.length []=(exts figs t.2.1.length []).filter fun l=>decide (VC t place l/\costV t l<=most/\∀ x∈l,x∈readF t place):=by
 rw [prune_eq];have hlen:=ht.len;obtain ⟨q,hq⟩:=readF_sub t place;have hmem:∀ x,x∈figs->(q x=true<->x∈readF t place):=fun x hx=>by rw [hq,List.mem_filter];exact ⟨fun h=>⟨hx,h⟩,fun h=>h.2⟩
 conv=>lhs;rw [hq]
 rw [exts_filter,List.filter_filter];refine List.filter_congr fun l hl=>?_
 obtain ⟨u,hu,hul,huf⟩:=mem_exts.1 hl;rw [List.nil_append] at hu;subst hu;rw [<- Bool.decide_eq_true (b:=(l.drop ([]:List Int).length).all q),<- Bool.decide_and,decide_eq_decide];have hpar:∀ i,0<i->i<l.length->parN t i<i:=fun i h0 hi=>par_lt ht h0 (by omega)
 have htake:∀ j,j<l.length->costN t (j+1) (l.take j++[l.getD j 0])=costN t (j+1) l:=fun j hj=>by
  refine costN_congr (fun i h0 hi=>by have:=hpar i h0 (by omega);omega) fun i hi=>?_
  by_cases e:i=j
  . subst e;rw [List.getD_eq_getElem?_getD,List.getElem?_append_right (by rw [List.length_take];exact Nat.min_le_left _ _),List.length_take,Nat.min_eq_left (by omega),Nat.sub_self];rfl
  . rw [List.getD_eq_getElem?_getD,List.getElem?_append_left (by simp;omega),List.getElem?_take,if_pos (by omega),List.getD_eq_getElem?_getD]
 have hok:∀ j,j<l.length->(okC t place most (l.take j) (l.getD j 0)=true<->(seenAt t j place<0\/l.getD j 0=seenAt t j place)/\costN t (j+1) l<=most):=fun j hj=>by
  rw [okC_iff,List.length_take,Nat.min_eq_left (by omega),htake j hj]
 constructor
 . rintro ⟨h1,h2⟩;have h1':∀ j,j<l.length->(seenAt t j place<0\/l.getD j 0=seenAt t j place)/\costN t (j+1) l<=most:=fun j hj=>(hok j hj).1 (h1 j (Nat.zero_le _) hj)
   refine ⟨⟨hul,fun x hx=>mem_figs.1 (huf x hx),fun i hi=>?_⟩,?_,fun x hx=>(hmem x (huf x hx)).1 (List.all_eq_true.1 h2 x (by simpa using hx))⟩
   . have:=ht.figs i hi;rcases (h1' i (by omega)).1 with h|h
     . exact fitsV_iff.2 (.inl (by omega))
     . exact fitsV_iff.2 (.inr h.symm)
   . have:=(h1' (l.length - 1) (by omega)).2;rw [Nat.sub_add_cancel (by omega),hul] at this;exact this
 . rintro ⟨h1,h2,h3⟩;refine ⟨fun j _ hj=>(hok j hj).2 ⟨?_,?_⟩,List.all_eq_true.2 fun x hx=>(hmem x (huf x (by simpa using hx))).2 (h3 x (by simpa using hx))⟩
   . rcases fitsV_iff.1 (h1.fit j (by omega)) with h|h
     . exact .inl (by omega)
     . exact .inr h.symm
   . exact Int.le_trans (costN_mono (by omega)) h2
open Classical in
theorem doc_best {t:TREE} {place:Int} (ht:TreeP t place):prune (okC t place (errsT t place)) (readF t place) t.2.1.length []=storT t place:=by
 rw [doc_cols ht,stor_eq ht.ground];refine List.filter_congr fun l _=>?_
 rw [decide_eq_decide];obtain ⟨l',h3,h4⟩:=errs_eq ht.ground;constructor
 . rintro ⟨h1,h2,_⟩;exact ⟨h1,fun l2 hl2=>by have:=h3.few l2 hl2;omega⟩
 . intro hb;exact ⟨hb.vc,by have:=hb.few l' h3.vc;omega,best_read ht hb⟩
theorem errs_bd {t:TREE} {place:Int} (ht:TreeP t place):0<=errsT t place/\errsT t place<=8:=by
 obtain ⟨l,_,e⟩:=errs_eq ht.ground;have:=costV_le (t:=t) l;have:=costV_nonneg (t:=t) l;have:=ht.len;omega
theorem stor_ne {t:TREE} {place:Int} (ht:TreeP t place):storT t place≠[]:=by
 obtain ⟨l,h,_⟩:=errs_eq ht.ground;exact List.ne_nil_of_mem ((stor_mem ht.ground).2 h)
theorem errs_none {t:TREE} {place:Int} (ht:TreeP t place) (hm:metTo t place 10=[]):errsT t place=0:=by
 have hb:=errs_bd ht;have hun:∀ i:Nat,i<t.2.1.length->seenAt t i place = -1:=fun i hi=>by
  have:=ht.figs i hi;refine Classical.byContradiction fun hc=>?_
  have:seenAt t i place∈metTo t place 10:=mem_met.2 ⟨by omega,i,hi,rfl⟩;rw [hm] at this;cases this
 obtain ⟨l,h1,h2⟩:=errs_eq ht.ground;have hr:∀ i,(List.replicate t.2.1.length (0:Int)).getD i 0=0:=fun i=>by
  rw [List.getD_eq_getElem?_getD,List.getElem?_replicate];split<;>rfl
 have h3:=h1.few (List.replicate t.2.1.length 0) ⟨by simp,fun x hx=>by rw [List.eq_of_mem_replicate hx];omega,fun i hi=>fitsV_iff.2 (.inl (hun i hi))⟩;have h4:costV t (List.replicate t.2.1.length 0)=0:=sumTo_all0 fun i _=>by
  split
  . rfl
  . rw [hr,hr,if_pos rfl]
 omega
theorem stor_len {t:TREE} {place:Int} (ht:TreeP t place):(storT t place).length<=256:=by
 rw [<- doc_best ht];refine prune_few ht ?_ _ _ (by simp)
 by_cases h:metTo t place 10=[]
 . exact .inr (errs_none ht h)
 . exact .inl h
end Go.V
end
