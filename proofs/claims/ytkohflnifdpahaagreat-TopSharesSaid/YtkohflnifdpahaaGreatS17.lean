/- A part of the proof of TopSharesSaid: no condition beyond what each theorem says. -/
import Derived.Test.YtkohflnifdpahaaGreatS12
import Derived.Test.YtkohflnifdpahaaGreatS15
import Derived.Test.YtkohflnifdpahaaGreatShelfD
import Derived.Test.YtkohflnifdpahaaGreatS16
set_option linter.all false
namespace Go.V
open Go.Proofs Go.Shelf Go.Lib Go.Sort
open Go.RowKit (Below)
theorem gives38 (j x:Int) (B o:Nat) (W:World) (hc:W.cell? ⟨B,o,none⟩=some (.int .i64 j)) :
    FnGives Tryz.prog 38 #[.pointer (some ⟨B,o,none⟩)] #[.int .i64 x] (.bool (x==j)) W:=by
  show Calls Tryz.prog 38 #[.int .i64 x,.pointer (some ⟨B,o,none⟩)] W _
  go_enter Tryz.func38,Tryz.ntmps38
  go_wp2
  all_goals (go_ret;exact ⟨by simp_all,0,rfl⟩)
theorem pred38 (j:Int) (B o:Nat) (w:World) (hB:B<w.heap.size) (hcell:w.cell? ⟨B,o,none⟩=some (.int .i64 j)) :
    PredAt Tryz.prog 38 #[.pointer (some ⟨B,o,none⟩)] (Value.int .i64) (fun x=>x==j) w :=
  fun W x hb=>gives38 j x B o W ((hb.cell (p:=⟨B,o,none⟩) hB).trans hcell)
theorem over38 (j:Int) (B o blk off size:Nat) (w:World) (hB:B<w.heap.size) (hne:B≠blk) (hcell:w.cell? ⟨B,o,none⟩=some (.int .i64 j)) :
    PredOver Tryz.prog 38 #[.pointer (some ⟨B,o,none⟩)] (Value.int .i64) (fun x=>x==j) blk off size w :=
  fun n os dk x _=>gives38 j x B o _ (by
    unfold sortWorld
    rw [cell?_grow _ _ _ (by show B<(putRow _ _ _ _ _).heap.size;rw [size_putRow];exact hB),cell?_putRow_other _ _ blk off _ _ (Or.inl hne)]
    exact hcell)
theorem delete_calls {w:World} {g cap B o:Nat} {j:Int} {xs:List Int} (hH:Sort.Holds (Value.int .i64) w g 0 xs.toArray) (hcap:xs.length<=cap) (hl:xs.length<1000000000) (hB:B<w.heap.size) (hne:B≠g) (hcell:w.cell? ⟨B,o,none⟩=some (.int .i64 j)) :
    Calls Tryz.prog 37 #[.slice (some ⟨g,0,none⟩) xs.length cap,.func (.func 38) #[] #[.pointer (some ⟨B,o,none⟩)]] w fun e w'=>e = .returned (.slice (some ⟨g,0,none⟩) (xs.filter fun x => !(x==j)).length cap) /\
      ∃ q,w'=Sort.putRow (Value.int .i64) (Sort.ahead w q) g 0 ((xs.filter fun x => !(x==j))++List.replicate (xs.length - (xs.filter fun x => !(x==j)).length) 0).toArray:=by
  have eg:∀ args w,(callFunc 38 args).run Tryz.prog w = .ok (.enter 38 args) w:=enters_of Tryz.func38 (by kernel_rfl) rfl
  have:=AnyE.slices_DeleteFunc Tryz.l37 (Value.int .i64) (fun _=>rfl) (fun x=>x==j) 38 #[.pointer (some ⟨B,o,none⟩)] eg 0 Tryz.zeroValue3 g 0 cap xs.toArray w (pred38 j B o w hB hcell) (over38 j B o g 0 _ w hB hne hcell) hH (by simp;omega) (by simpa using hcap)
  change Calls Tryz.prog 37 _ _ _ at this
  simpa using this
end Go.V
namespace Go.V
open Go.Proofs
open Go.RowKit (Below)
structure HL where
  v:Value
  xs:List Int
def rowV (xs:List Int):List Value:=xs.map fun x=>Value.int .i64 x
def HD:Hole where
  σ:=HL
  hb s _ b:=ownB (show HL from s).v=some b
  I s _ w:=w.ownsRow 0 3 1 (show HL from s).v (show HL from s).xs.length (rowV (show HL from s).xs)
  keep s M w M' w' h _ hk:=owns_keep h fun g hg=>hk g hg
  same s M w w' _ _ b h:=h
  lt s M w b h hb:=by
    rcases h.2 with ⟨e,_⟩|⟨g,cap,cur,e,_,h1,_⟩
    . have hb:ownB (show HL from s).v=some b:=hb
      rw [e] at hb;cases hb
    . have hb:ownB (show HL from s).v=some b:=hb
      rw [e] at hb;cases hb
      exact (Array.getElem?_eq_some_iff.1 h1).1
  nd s M w b c h hb e0:=by
    rcases h.2 with ⟨e,_⟩|⟨g,cap,cur,e,_,h1,_⟩
    . have hb:ownB (show HL from s).v=some b:=hb
      rw [e] at hb;cases hb
    . have hb:ownB (show HL from s).v=some b:=hb
      rw [e] at hb;cases hb
      rw [h1] at e0;cases e0
noncomputable def r10_13:Array Oper:=regAt 13 (bodyOf Tryz.f10)
theorem info10_13:r10_13.toList.map opInfo=[(some 11,.assign (.const (.slice none 0 0)),none)]:=by kernel_rfl
noncomputable def r10_14:Array Oper:=regAt 14 (bodyOf Tryz.f10)
noncomputable def r10_15:Array Oper:=regAt 15 (bodyOf Tryz.f10)
noncomputable def r10_16:Array Oper:=regAt 16 (bodyOf Tryz.f10)
noncomputable def r10_17:Array Oper:=regAt 17 (bodyOf Tryz.f10)
noncomputable def r10_18:Array Oper:=regAt 18 (bodyOf Tryz.f10)
theorem info10_18:r10_18.toList.map opInfo=[(some 65,.move (.tmp 11),none),
  (some 66,.move (.tmp 12),none),
  (some 67,.buildSlice 29 1 #[(0,.tmp 66)],none),
  (some 68,.call { callee:=.builtin .append,args := #[.tmp 65,.tmp 67],argTypes := #[29,29] },none),
  (some 11,.assign (.tmp 68),none)]:=by kernel_rfl
noncomputable def r10_19:Array Oper:=regAt 19 (bodyOf Tryz.f10)
noncomputable def r10_20:Array Oper:=regAt 20 (bodyOf Tryz.f10)
noncomputable def r10_21:Array Oper:=regAt 21 (bodyOf Tryz.f10)
noncomputable def r10_22:Array Oper:=regAt 22 (bodyOf Tryz.f10)
theorem info10_22:r10_22.toList.map opInfo=[(some 76,.move (.tmp 11),none),
  (some 77,.makeFunc (.func 36) #[] #[.tmp 3,.tmp 6,.tmp 9],none),
  (some 78,.call { callee:=.value (.func 35),args := #[.tmp 76,.tmp 77],argTypes := #[29,76] },none),
  (some 13,.alloc 3,none),
  (none,.store 3 (.tmp 13) (.tmp 78),none)]:=by kernel_rfl
noncomputable def r10_23:Array Oper:=regAt 23 (bodyOf Tryz.f10)
noncomputable def r10_24:Array Oper:=regAt 24 (bodyOf Tryz.f10)
theorem info10_24:r10_24.toList.map opInfo=[(some 85,.move (.tmp 11),none),
  (some 86,.makeFunc (.func 38) #[] #[.tmp 13],none),
  (some 87,.call { callee:=.value (.func 37),args := #[.tmp 85,.tmp 86],argTypes := #[29,26] },none),
  (some 11,.assign (.tmp 87),none)]:=by kernel_rfl
noncomputable def r10_25:Array Oper:=regAt 25 (bodyOf Tryz.f10)
noncomputable def r10_26:Array Oper:=regAt 26 (bodyOf Tryz.f10)
theorem info10_26:r10_26.toList.map opInfo=[(some 89,.move (.tmp 10),none),
  (some 4,.assign (.tmp 89),none),
  (some 5,.assign (.const (.int .i64 0)),none)]:=by kernel_rfl
abbrev ENTS:Ty:=.list (.prod (.int .i64) (.prod (.int .i64) (.prod (.prod (.int .i64) (.prod (.int .i64) .unit)) (.prod (.int .i64) (.prod (.int .i64) (.prod (.prod (.int .i64) (.prod (.int .i64) (.prod (.int .i64) (.prod (.int .i64) .unit)))) .unit))))))
section
variable (n k0 tot i m t j b1 b2 b3 b4 b5 : Int) (b6 : ENTS.den) (ps zs : List Int) (v : Value) (s : HD.σ) (k : X → HD.σ → St → Out Unit)
def Ue10_14:List Nat:=[0,1,2,4,5,7,8,12,13,14,15,16,17,18,19,20,21,22,23,24,25,26,27,28,29,30,31,32,33,34,35,36,37,38,39,40,41,42,43,44,45,46,47,48,49,52,53,54,55,56,57,58,59,60,61,62,63,64,65,66,67,68,69,70,71,72,73,74,75,76,77,78,79,80,81,82,83,84,85,86,87,88,89]
theorem e10_14:vhq Tryz.prog HD (phi []) [] 1 (.region 14 r10_14 false) [] (fun x s st=>k x s ((undAll Ue10_14 st).map dropS)) s [.und,.und,.box [.d (.int .i64) n,.d (.int .i64) b1,.d (.int .i64) b2,.d (.int .i64) b3,.d (.int .i64) b4,.d (.int .i64) b5,.d (.list (.prod (.int .i64) (.prod (.int .i64) (.prod (.prod (.int .i64) (.prod (.int .i64) .unit)) (.prod (.int .i64) (.prod (.int .i64) (.prod (.prod (.int .i64) (.prod (.int .i64) (.prod (.int .i64) (.prod (.int .i64) .unit)))) .unit))))))) b6],.ref (.int .i64) k0,.und,.und,.ref (.list (.int .i64)) ps,.und,.und,.ref (.int .i64) tot,.arr (.int .i64) zs false,.d .raw v,.und,.und,.und,.und,.und,.und,.und,.und,.und,.und,.und,.und,.und,.und,.und,.und,.und,.und,.und,.und,.und,.und,.und,.und,.und,.und,.und,.und,.und,.und,.und,.und,.und,.und,.und,.und,.und,.und,.und,.und,.und,.und,.und,.und,.und,.und,.und,.und,.und,.und,.und,.und,.und,.und,.und,.und,.und,.und,.und,.und,.und,.und,.und,.und,.und,.und,.und,.und,.und,.und,.und,.und,.und,.und,.und,.und,.und,.und] =
  k .normal s [.und,.und,.und,.ref (.int .i64) k0,.und,.und,.ref (.list (.int .i64)) ps,.und,.und,.ref (.int .i64) tot,.arr (.int .i64) zs false,.d .raw v,.und,.und,.und,.und,.und,.und,.und,.und,.und,.und,.und,.und,.und,.und,.und,.und,.und,.und,.und,.und,.und,.und,.und,.und,.und,.und,.und,.und,.und,.und,.und,.und,.und,.und,.und,.und,.und,.und,.d (.int .i64) n,.d (.int .i64) (0:Int),.und,.und,.und,.und,.und,.und,.und,.und,.und,.und,.und,.und,.und,.und,.und,.und,.und,.und,.und,.und,.und,.und,.und,.und,.und,.und,.und,.und,.und,.und,.und,.und,.und,.und,.und,.und,.und,.und]:=by kernel_rfl
def Ue10_15:List Nat:=[0,1,2,4,5,7,8,12,13,14,15,16,17,18,19,20,21,22,23,24,25,26,27,28,29,30,31,32,33,34,35,36,37,38,39,40,41,42,43,44,45,46,47,48,49,53,54,55,56,57,58,59,60,61,62,63,64,65,66,67,68,69,70,71,72,73,74,75,76,77,78,79,80,81,82,83,84,85,86,87,88,89]
theorem e10_15:vhq Tryz.prog HD (phi []) [] 1 (.region 15 r10_15 false) [] (fun x s st=>k x s ((undAll Ue10_15 st).map dropS)) s [.und,.und,.und,.ref (.int .i64) k0,.und,.und,.ref (.list (.int .i64)) ps,.und,.und,.ref (.int .i64) tot,.arr (.int .i64) zs false,.d .raw v,.und,.und,.und,.und,.und,.und,.und,.und,.und,.und,.und,.und,.und,.und,.und,.und,.und,.und,.und,.und,.und,.und,.und,.und,.und,.und,.und,.und,.und,.und,.und,.und,.und,.und,.und,.und,.und,.und,.d (.int .i64) n,.d (.int .i64) i,.und,.und,.und,.und,.und,.und,.und,.und,.und,.und,.und,.und,.und,.und,.und,.und,.und,.und,.und,.und,.und,.und,.und,.und,.und,.und,.und,.und,.und,.und,.und,.und,.und,.und,.und,.und,.und,.und] =
  k .normal s [.und,.und,.und,.ref (.int .i64) k0,.und,.und,.ref (.list (.int .i64)) ps,.und,.und,.ref (.int .i64) tot,.arr (.int .i64) zs false,.d .raw v,.und,.und,.und,.und,.und,.und,.und,.und,.und,.und,.und,.und,.und,.und,.und,.und,.und,.und,.und,.und,.und,.und,.und,.und,.und,.und,.und,.und,.und,.und,.und,.und,.und,.und,.und,.und,.und,.und,.d (.int .i64) n,.d (.int .i64) i,.d .bool (decide (i<n)),.und,.und,.und,.und,.und,.und,.und,.und,.und,.und,.und,.und,.und,.und,.und,.und,.und,.und,.und,.und,.und,.und,.und,.und,.und,.und,.und,.und,.und,.und,.und,.und,.und,.und,.und,.und,.und]:=by kernel_rfl
def Ue10_16:List Nat:=[0,1,2,4,5,7,8,13,14,15,16,17,18,19,20,21,22,23,24,25,26,27,28,29,30,31,32,33,34,35,36,37,38,39,40,41,42,43,44,45,46,47,48,49,52,53,54,55,56,57,58,59,60,61,62,63,64,65,66,67,68,69,70,71,72,73,74,75,76,77,78,79,80,81,82,83,84,85,86,87,88,89]
theorem e10_16:vhq Tryz.prog HD (phi []) [] 1 (.region 16 r10_16 false) [] (fun x s st=>k x s ((undAll Ue10_16 st).map dropS)) s [.und,.und,.und,.ref (.int .i64) k0,.und,.und,.ref (.list (.int .i64)) ps,.und,.und,.ref (.int .i64) tot,.arr (.int .i64) zs false,.d .raw v,.und,.und,.und,.und,.und,.und,.und,.und,.und,.und,.und,.und,.und,.und,.und,.und,.und,.und,.und,.und,.und,.und,.und,.und,.und,.und,.und,.und,.und,.und,.und,.und,.und,.und,.und,.und,.und,.und,.d (.int .i64) n,.d (.int .i64) i,.und,.und,.und,.und,.und,.und,.und,.und,.und,.und,.und,.und,.und,.und,.und,.und,.und,.und,.und,.und,.und,.und,.und,.und,.und,.und,.und,.und,.und,.und,.und,.und,.und,.und,.und,.und,.und,.und] =
  k .normal s [.und,.und,.und,.ref (.int .i64) k0,.und,.und,.ref (.list (.int .i64)) ps,.und,.und,.ref (.int .i64) tot,.arr (.int .i64) zs false,.d .raw v,.d (.int .i64) i,.und,.und,.und,.und,.und,.und,.und,.und,.und,.und,.und,.und,.und,.und,.und,.und,.und,.und,.und,.und,.und,.und,.und,.und,.und,.und,.und,.und,.und,.und,.und,.und,.und,.und,.und,.und,.und,.d (.int .i64) n,.d (.int .i64) i,.und,.und,.und,.und,.und,.und,.und,.und,.und,.und,.und,.und,.und,.und,.und,.und,.und,.und,.und,.und,.und,.und,.und,.und,.und,.und,.und,.und,.und,.und,.und,.und,.und,.und,.und,.und,.und,.und]:=by kernel_rfl
def Ue10_17:List Nat:=[0,1,2,4,5,7,8,13,14,15,16,17,18,19,20,21,22,23,24,25,26,27,28,29,30,31,32,33,34,35,36,37,38,39,40,41,42,43,44,45,46,47,48,49,52,53,54,55,56,57,58,59,60,61,62,63,64,65,66,67,68,69,70,71,72,73,74,75,76,77,78,79,80,81,82,83,84,85,86,87,88,89]
theorem e10_17:vhq Tryz.prog HD (phi []) [] 1 (.region 17 r10_17 true) [] (fun x s st=>k x s ((undAll Ue10_17 st).map dropS)) s [.und,.und,.und,.ref (.int .i64) k0,.und,.und,.ref (.list (.int .i64)) ps,.und,.und,.ref (.int .i64) tot,.arr (.int .i64) zs false,.d .raw v,.d (.int .i64) i,.und,.und,.und,.und,.und,.und,.und,.und,.und,.und,.und,.und,.und,.und,.und,.und,.und,.und,.und,.und,.und,.und,.und,.und,.und,.und,.und,.und,.und,.und,.und,.und,.und,.und,.und,.und,.und,.d (.int .i64) n,.d (.int .i64) i,.und,.und,.und,.und,.und,.und,.und,.und,.und,.und,.und,.und,.und,.und,.und,.und,.und,.und,.und,.und,.und,.und,.und,.und,.und,.und,.und,.und,.und,.und,.und,.und,.und,.und,.und,.und,.und,.und] =
  bif (inb i ps.length) then
    bif (tot != (0:Int)) then
      bif (inb i zs.length) then
        bif (decide ((i.toNat)<zs.length)) then
          k .normal s [.und,.und,.und,.ref (.int .i64) k0,.und,.und,.ref (.list (.int .i64)) ps,.und,.und,.ref (.int .i64) tot,.arr (.int .i64) (List.set zs (i.toNat) (IntKind.i64.wrap ((IntKind.i64.wrap (k0 * (List.getD ps i.toNat (0:Int)))).tdiv tot))) false,.d .raw v,.d (.int .i64) i,.und,.und,.und,.und,.und,.und,.und,.und,.und,.und,.und,.und,.und,.und,.und,.und,.und,.und,.und,.und,.und,.und,.und,.und,.und,.und,.und,.und,.und,.und,.und,.und,.und,.und,.und,.und,.und,.d (.int .i64) n,.d (.int .i64) i,.und,.und,.und,.und,.und,.und,.und,.und,.und,.und,.und,.und,.und,.und,.und,.und,.und,.und,.und,.und,.und,.und,.und,.und,.und,.und,.und,.und,.und,.und,.und,.und,.und,.und,.und,.und,.und,.und]
        else .fail
      else .fail
    else .fail
  else .fail:=by kernel_rfl
def Ue10_19:List Nat:=[0,1,2,4,5,7,8,12,13,14,15,16,17,18,19,20,21,22,23,24,25,26,27,28,29,30,31,32,33,34,35,36,37,38,39,40,41,42,43,44,45,46,47,48,49,52,53,54,55,56,57,58,59,60,61,62,63,64,65,66,67,68,69,70,71,72,73,74,75,76,77,78,79,80,81,82,83,84,85,86,87,88,89]
theorem e10_19:vhq Tryz.prog HD (phi []) [] 1 (.region 19 r10_19 false) [] (fun x s st=>k x s ((undAll Ue10_19 st).map dropS)) s [.und,.und,.und,.ref (.int .i64) k0,.und,.und,.ref (.list (.int .i64)) ps,.und,.und,.ref (.int .i64) tot,.arr (.int .i64) zs false,.d .raw v,.und,.und,.und,.und,.und,.und,.und,.und,.und,.und,.und,.und,.und,.und,.und,.und,.und,.und,.und,.und,.und,.und,.und,.und,.und,.und,.und,.und,.und,.und,.und,.und,.und,.und,.und,.und,.und,.und,.d (.int .i64) n,.d (.int .i64) i,.und,.und,.und,.und,.und,.und,.und,.und,.und,.und,.und,.und,.und,.und,.und,.und,.und,.und,.und,.und,.und,.und,.und,.und,.und,.und,.und,.und,.und,.und,.und,.und,.und,.und,.und,.und,.und,.und] =
  k .normal s [.und,.und,.und,.ref (.int .i64) k0,.und,.und,.ref (.list (.int .i64)) ps,.und,.und,.ref (.int .i64) tot,.arr (.int .i64) zs false,.d .raw v,.und,.und,.und,.und,.und,.und,.und,.und,.und,.und,.und,.und,.und,.und,.und,.und,.und,.und,.und,.und,.und,.und,.und,.und,.und,.und,.und,.und,.und,.und,.und,.und,.und,.und,.und,.und,.und,.und,.d (.int .i64) n,.d (.int .i64) (IntKind.i64.wrap (i+(1:Int))),.und,.und,.und,.und,.und,.und,.und,.und,.und,.und,.und,.und,.und,.und,.und,.und,.und,.und,.und,.und,.und,.und,.und,.und,.und,.und,.und,.und,.und,.und,.und,.und,.und,.und,.und,.und,.und,.und]:=by kernel_rfl
def Ue10_21:List Nat:=[0,1,2,4,5,7,8,12,13,14,15,16,17,18,19,20,21,22,23,24,25,26,27,28,29,30,31,32,33,34,35,36,37,38,39,40,41,42,43,44,45,46,47,48,49,50,51,52,53,54,55,56,57,58,59,60,61,62,63,64,65,66,67,68,69,70,71,72,76,77,78,79,80,81,82,83,84,85,86,87,88,89]
theorem e10_21:vhq Tryz.prog HD (phi []) [] 1 (.region 21 r10_21 false) [] (fun x s st=>k x s ((undAll Ue10_21 st).map dropS)) s [.und,.und,.und,.ref (.int .i64) k0,.und,.und,.ref (.list (.int .i64)) ps,.und,.und,.ref (.int .i64) tot,.arr (.int .i64) zs false,.d .raw v,.und,.und,.und,.und,.und,.und,.und,.und,.und,.und,.und,.und,.und,.und,.und,.und,.und,.und,.und,.und,.und,.und,.und,.und,.und,.und,.und,.und,.und,.und,.und,.und,.und,.und,.und,.und,.und,.und,.und,.und,.und,.und,.und,.und,.und,.und,.und,.und,.und,.und,.und,.und,.und,.und,.und,.und,.und,.und,.und,.und,.und,.d (.int .i64) m,.d (.int .i64) t,.und,.und,.und,.und,.und,.und,.und,.und,.und,.und,.und,.und,.und,.und,.und] =
  k .normal s [.und,.und,.und,.ref (.int .i64) k0,.und,.und,.ref (.list (.int .i64)) ps,.und,.und,.ref (.int .i64) tot,.arr (.int .i64) zs false,.d .raw v,.und,.und,.und,.und,.und,.und,.und,.und,.und,.und,.und,.und,.und,.und,.und,.und,.und,.und,.und,.und,.und,.und,.und,.und,.und,.und,.und,.und,.und,.und,.und,.und,.und,.und,.und,.und,.und,.und,.und,.und,.und,.und,.und,.und,.und,.und,.und,.und,.und,.und,.und,.und,.und,.und,.und,.und,.und,.und,.und,.und,.und,.d (.int .i64) m,.d (.int .i64) t,.d .bool (decide (t<m)),.und,.und,.und,.und,.und,.und,.und,.und,.und,.und,.und,.und,.und,.und]:=by kernel_rfl
def Ue10_23:List Nat:=[0,1,2,4,5,7,8,12,14,15,16,17,18,19,20,21,22,23,24,25,26,27,28,29,30,31,32,33,34,35,36,37,38,39,40,41,42,43,44,45,46,47,48,49,50,51,52,53,54,55,56,57,58,59,60,61,62,63,64,65,66,67,68,69,70,71,72,75,76,77,78,79,80,81,82,83,84,85,86,87,88,89]
theorem e10_23:vhq Tryz.prog HD (phi []) [] 1 (.region 23 r10_23 false) [] (fun x s st=>k x s ((undAll Ue10_23 st).map dropS)) s [.und,.und,.und,.ref (.int .i64) k0,.und,.und,.ref (.list (.int .i64)) ps,.und,.und,.ref (.int .i64) tot,.arr (.int .i64) zs false,.d .raw v,.und,.ref (.int .i64) j,.und,.und,.und,.und,.und,.und,.und,.und,.und,.und,.und,.und,.und,.und,.und,.und,.und,.und,.und,.und,.und,.und,.und,.und,.und,.und,.und,.und,.und,.und,.und,.und,.und,.und,.und,.und,.und,.und,.und,.und,.und,.und,.und,.und,.und,.und,.und,.und,.und,.und,.und,.und,.und,.und,.und,.und,.und,.und,.und,.d (.int .i64) m,.d (.int .i64) t,.und,.und,.und,.und,.und,.und,.und,.und,.und,.und,.und,.und,.und,.und,.und] =
  bif (inb j zs.length) then
    bif (decide ((j.toNat)<zs.length)) then
      bif (inb j zs.length) then
        bif (decide ((j.toNat)<zs.length)) then
          k .normal s [.und,.und,.und,.ref (.int .i64) k0,.und,.und,.ref (.list (.int .i64)) ps,.und,.und,.ref (.int .i64) tot,.arr (.int .i64) (List.set zs (j.toNat) (IntKind.i64.wrap ((List.getD zs (j.toNat) (0:Int))+(1:Int)))) false,.d .raw v,.und,.ref (.int .i64) j,.und,.und,.und,.und,.und,.und,.und,.und,.und,.und,.und,.und,.und,.und,.und,.und,.und,.und,.und,.und,.und,.und,.und,.und,.und,.und,.und,.und,.und,.und,.und,.und,.und,.und,.und,.und,.und,.und,.und,.und,.und,.und,.und,.und,.und,.und,.und,.und,.und,.und,.und,.und,.und,.und,.und,.und,.und,.und,.und,.d (.int .i64) m,.d (.int .i64) t,.und,.und,.und,.und,.und,.und,.und,.und,.und,.und,.und,.und,.und,.und,.und]
        else .fail
      else .fail
    else .fail
  else .fail:=by kernel_rfl
def Ue10_25:List Nat:=[0,1,2,4,5,7,8,12,13,14,15,16,17,18,19,20,21,22,23,24,25,26,27,28,29,30,31,32,33,34,35,36,37,38,39,40,41,42,43,44,45,46,47,48,49,50,51,52,53,54,55,56,57,58,59,60,61,62,63,64,65,66,67,68,69,70,71,72,75,76,77,78,79,80,81,82,83,84,85,86,87,88,89]
theorem e10_25:vhq Tryz.prog HD (phi []) [] 1 (.region 25 r10_25 false) [] (fun x s st=>k x s ((undAll Ue10_25 st).map dropS)) s [.und,.und,.und,.ref (.int .i64) k0,.und,.und,.ref (.list (.int .i64)) ps,.und,.und,.ref (.int .i64) tot,.arr (.int .i64) zs false,.d .raw v,.und,.und,.und,.und,.und,.und,.und,.und,.und,.und,.und,.und,.und,.und,.und,.und,.und,.und,.und,.und,.und,.und,.und,.und,.und,.und,.und,.und,.und,.und,.und,.und,.und,.und,.und,.und,.und,.und,.und,.und,.und,.und,.und,.und,.und,.und,.und,.und,.und,.und,.und,.und,.und,.und,.und,.und,.und,.und,.und,.und,.und,.d (.int .i64) m,.d (.int .i64) t,.und,.und,.und,.und,.und,.und,.und,.und,.und,.und,.und,.und,.und,.und,.und] =
  k .normal s [.und,.und,.und,.ref (.int .i64) k0,.und,.und,.ref (.list (.int .i64)) ps,.und,.und,.ref (.int .i64) tot,.arr (.int .i64) zs false,.d .raw v,.und,.und,.und,.und,.und,.und,.und,.und,.und,.und,.und,.und,.und,.und,.und,.und,.und,.und,.und,.und,.und,.und,.und,.und,.und,.und,.und,.und,.und,.und,.und,.und,.und,.und,.und,.und,.und,.und,.und,.und,.und,.und,.und,.und,.und,.und,.und,.und,.und,.und,.und,.und,.und,.und,.und,.und,.und,.und,.und,.und,.und,.d (.int .i64) m,.d (.int .i64) (IntKind.i64.wrap (t+(1:Int))),.und,.und,.und,.und,.und,.und,.und,.und,.und,.und,.und,.und,.und,.und,.und]:=by kernel_rfl
end
noncomputable def st10A (n b1 b2 b3 b4 b5:Int) (b6:ENTS.den) (k0:Int) (ps:List Int) (tot:Int) (zs:List Int) (v:Value):St:=[.und,.und,.box [.d (.int .i64) n,.d (.int .i64) b1,.d (.int .i64) b2,.d (.int .i64) b3,.d (.int .i64) b4,.d (.int .i64) b5,.d (.list (.prod (.int .i64) (.prod (.int .i64) (.prod (.prod (.int .i64) (.prod (.int .i64) .unit)) (.prod (.int .i64) (.prod (.int .i64) (.prod (.prod (.int .i64) (.prod (.int .i64) (.prod (.int .i64) (.prod (.int .i64) .unit)))) .unit))))))) b6],.ref (.int .i64) k0,.und,.und,.ref (.list (.int .i64)) ps,.und,.und,.ref (.int .i64) tot,.arr (.int .i64) zs false,.d .raw v,.und,.und,.und,.und,.und,.und,.und,.und,.und,.und,.und,.und,.und,.und,.und,.und,.und,.und,.und,.und,.und,.und,.und,.und,.und,.und,.und,.und,.und,.und,.und,.und,.und,.und,.und,.und,.und,.und,.und,.und,.und,.und,.und,.und,.und,.und,.und,.und,.und,.und,.und,.und,.und,.und,.und,.und,.und,.und,.und,.und,.und,.und,.und,.und,.und,.und,.und,.und,.und,.und,.und,.und,.und,.und,.und,.und,.und,.und]
noncomputable def st10L (k0:Int) (ps:List Int) (tot:Int) (zs:List Int) (v:Value) (n i:Int):St:=[.und,.und,.und,.ref (.int .i64) k0,.und,.und,.ref (.list (.int .i64)) ps,.und,.und,.ref (.int .i64) tot,.arr (.int .i64) zs false,.d .raw v,.und,.und,.und,.und,.und,.und,.und,.und,.und,.und,.und,.und,.und,.und,.und,.und,.und,.und,.und,.und,.und,.und,.und,.und,.und,.und,.und,.und,.und,.und,.und,.und,.und,.und,.und,.und,.und,.und,.d (.int .i64) n,.d (.int .i64) i,.und,.und,.und,.und,.und,.und,.und,.und,.und,.und,.und,.und,.und,.und,.und,.und,.und,.und,.und,.und,.und,.und,.und,.und,.und,.und,.und,.und,.und,.und,.und,.und,.und,.und,.und,.und,.und,.und]
noncomputable def st10C (k0:Int) (ps:List Int) (tot:Int) (zs:List Int) (v:Value) (n i:Int):St:=[.und,.und,.und,.ref (.int .i64) k0,.und,.und,.ref (.list (.int .i64)) ps,.und,.und,.ref (.int .i64) tot,.arr (.int .i64) zs false,.d .raw v,.und,.und,.und,.und,.und,.und,.und,.und,.und,.und,.und,.und,.und,.und,.und,.und,.und,.und,.und,.und,.und,.und,.und,.und,.und,.und,.und,.und,.und,.und,.und,.und,.und,.und,.und,.und,.und,.und,.d (.int .i64) n,.d (.int .i64) i,.d .bool (decide (i<n)),.und,.und,.und,.und,.und,.und,.und,.und,.und,.und,.und,.und,.und,.und,.und,.und,.und,.und,.und,.und,.und,.und,.und,.und,.und,.und,.und,.und,.und,.und,.und,.und,.und,.und,.und,.und,.und]
noncomputable def st10P (k0:Int) (ps:List Int) (tot:Int) (zs:List Int) (v:Value) (n i:Int):St:=[.und,.und,.und,.ref (.int .i64) k0,.und,.und,.ref (.list (.int .i64)) ps,.und,.und,.ref (.int .i64) tot,.arr (.int .i64) zs false,.d .raw v,.d (.int .i64) i,.und,.und,.und,.und,.und,.und,.und,.und,.und,.und,.und,.und,.und,.und,.und,.und,.und,.und,.und,.und,.und,.und,.und,.und,.und,.und,.und,.und,.und,.und,.und,.und,.und,.und,.und,.und,.und,.d (.int .i64) n,.d (.int .i64) i,.und,.und,.und,.und,.und,.und,.und,.und,.und,.und,.und,.und,.und,.und,.und,.und,.und,.und,.und,.und,.und,.und,.und,.und,.und,.und,.und,.und,.und,.und,.und,.und,.und,.und,.und,.und,.und,.und]
noncomputable def st10B (k0:Int) (ps:List Int) (tot:Int) (zs:List Int) (v:Value):St:=[.und,.und,.und,.ref (.int .i64) k0,.und,.und,.ref (.list (.int .i64)) ps,.und,.und,.ref (.int .i64) tot,.arr (.int .i64) zs false,.d .raw v,.und,.und,.und,.und,.und,.und,.und,.und,.und,.und,.und,.und,.und,.und,.und,.und,.und,.und,.und,.und,.und,.und,.und,.und,.und,.und,.und,.und,.und,.und,.und,.und,.und,.und,.und,.und,.und,.und,.und,.und,.und,.und,.und,.und,.und,.und,.und,.und,.und,.und,.und,.und,.und,.und,.und,.und,.und,.und,.und,.und,.und,.und,.und,.und,.und,.und,.und,.und,.und,.und,.und,.und,.und,.und,.und,.und,.und,.und]
noncomputable def st10M (k0:Int) (ps:List Int) (tot:Int) (zs:List Int) (v:Value) (m t:Int):St:=[.und,.und,.und,.ref (.int .i64) k0,.und,.und,.ref (.list (.int .i64)) ps,.und,.und,.ref (.int .i64) tot,.arr (.int .i64) zs false,.d .raw v,.und,.und,.und,.und,.und,.und,.und,.und,.und,.und,.und,.und,.und,.und,.und,.und,.und,.und,.und,.und,.und,.und,.und,.und,.und,.und,.und,.und,.und,.und,.und,.und,.und,.und,.und,.und,.und,.und,.und,.und,.und,.und,.und,.und,.und,.und,.und,.und,.und,.und,.und,.und,.und,.und,.und,.und,.und,.und,.und,.und,.und,.d (.int .i64) m,.d (.int .i64) t,.und,.und,.und,.und,.und,.und,.und,.und,.und,.und,.und,.und,.und,.und,.und]
noncomputable def st10D (k0:Int) (ps:List Int) (tot:Int) (zs:List Int) (v:Value) (m t:Int):St:=[.und,.und,.und,.ref (.int .i64) k0,.und,.und,.ref (.list (.int .i64)) ps,.und,.und,.ref (.int .i64) tot,.arr (.int .i64) zs false,.d .raw v,.und,.und,.und,.und,.und,.und,.und,.und,.und,.und,.und,.und,.und,.und,.und,.und,.und,.und,.und,.und,.und,.und,.und,.und,.und,.und,.und,.und,.und,.und,.und,.und,.und,.und,.und,.und,.und,.und,.und,.und,.und,.und,.und,.und,.und,.und,.und,.und,.und,.und,.und,.und,.und,.und,.und,.und,.und,.und,.und,.und,.und,.d (.int .i64) m,.d (.int .i64) t,.d .bool (decide (t<m)),.und,.und,.und,.und,.und,.und,.und,.und,.und,.und,.und,.und,.und,.und]
noncomputable def st10J (k0:Int) (ps:List Int) (tot:Int) (zs:List Int) (v:Value) (m t j:Int):St:=[.und,.und,.und,.ref (.int .i64) k0,.und,.und,.ref (.list (.int .i64)) ps,.und,.und,.ref (.int .i64) tot,.arr (.int .i64) zs false,.d .raw v,.und,.ref (.int .i64) j,.und,.und,.und,.und,.und,.und,.und,.und,.und,.und,.und,.und,.und,.und,.und,.und,.und,.und,.und,.und,.und,.und,.und,.und,.und,.und,.und,.und,.und,.und,.und,.und,.und,.und,.und,.und,.und,.und,.und,.und,.und,.und,.und,.und,.und,.und,.und,.und,.und,.und,.und,.und,.und,.und,.und,.und,.und,.und,.und,.d (.int .i64) m,.d (.int .i64) t,.und,.und,.und,.und,.und,.und,.und,.und,.und,.und,.und,.und,.und,.und,.und]
end Go.V
namespace Go.V
open Go.Proofs
open Go.RowKit (Below)
section
variable {a : Act} {w : World} {o : Oper}
theorem ex_build29 {q:Nat} (ho:o.op = .buildSlice 29 1 #[(0,.tmp q)]) {x:Int} (h1:tm a q = .int .i64 x):(execOp a.eval o).run Tryz.prog w = .ok (.value (.slice (some ⟨w.heap.size,0,none⟩) 1 1)) (w.alloc (.cells #[.int .i64 x] 3)):=by
  have e1:a.eval (.tmp q) = .int .i64 x:=h1
  simp only [execOp,ho,List.map_toArray,List.map_cons,List.map_nil,e1]
  simp [go_sem]
theorem ex_app29 {p q:Nat} {v:Value} {us:List Value} {x:Value} {b:Nat} (ho:o.op = .call { callee:=.builtin .append,args := #[.tmp p,.tmp q],argTypes := #[29,29] }) (h0:tm a p=v) (h1:tm a q = .slice (some ⟨b,0,none⟩) 1 1)
    (hown:w.ownsRow 0 3 1 v us.length us) (hc:w.cell? ⟨b,0,none⟩=some x) (hx:x.oneCell'=true) (hlen:us.length<1000000000) :
    ∃ v' w',(execOp a.eval o).run Tryz.prog w = .ok (.value v') w'/\w'.ownsRow 0 3 1 v' (us++[x]).length (us++[x])/\w.grownBy w' (ownB v)/\(ownB v'=ownB v\/ownB v'=some w.heap.size):=by
  have e0:a.eval (.tmp p)=v:=h0
  have e1:a.eval (.tmp q) = .slice (some ⟨b,0,none⟩) 1 1:=h1
  obtain ⟨v',w',g1,g2⟩:=append_one (P:=Tryz.prog) (w:=w) (t:=29) (ty:=o.type) (e:=3) (i:=(Tryz.prog.info? 3).getD default) (z:=.int .i64 0) (by kernel_rfl) (by kernel_rfl) (by kernel_rfl) (by kernel_rfl) (of_decide_eq_true (by kernel_rfl)) (by kernel_rfl) hown hc hx hlen
  refine ⟨v',w',?_,g2⟩
  simp [execOp,ho,resolve,e0,e1,invoke,builtin,g1]
end
theorem rowV_len (xs:List Int):(rowV xs).length=xs.length:=by unfold rowV;simp
theorem st10P_und {k0:Int} {ps:List Int} {tot:Int} {zs:List Int} {v:Value} {n i:Int} {j:Nat} (h:53<=j):get (st10P k0 ps tot zs v n i) j = .und:=by
  by_cases hj:j<90
  . have h1:((List.range 90).all fun k=>decide (k<53) || (match get (st10P k0 ps tot zs v n i) k with | .und=>true|_=>false))=true:=by rfl
    have h3:=List.all_eq_true.1 h1 j (List.mem_range.2 hj)
    simp only [Bool.or_eq_true,decide_eq_true_eq] at h3
    rcases h3 with h3|h3
    . omega
    . revert h3
      cases e:get (st10P k0 ps tot zs v n i) j with
      | und=>exact fun _=>rfl
      | _=>exact fun h=>by cases h
  . unfold get
    rw [List.getD_eq_getElem?_getD,List.getElem?_eq_none (by show 90<=j;omega)]
    rfl
section
variable {n : Nat} {Q : Exit → Act → World → Prop} {F : Nat → Prop} {M0 : Base} {w0 : World} {a : Act} {w : World} {k0 tot nn i : Int} {ps zs : List Int} {v : Value} {xs : List Int}
theorem rawHD {s:HD.σ} {st:St} (hc:ConcH HD F M0 w0 s st a w) {j:Nat} {v:Value} (h:get st j = .d .raw v):tm a j=v:=by
  obtain ⟨hf,M,hG⟩:=hc
  have s1:=hG.2.1.slot j
  rw [h] at s1
  exact repV_raw (show RepV M w .raw (tm a j) v from s1)
theorem intHD {s:HD.σ} {st:St} (hc:ConcH HD F M0 w0 s st a w) {j:Nat} {x:Int} (h:get st j = .d (.int .i64) x):tm a j = .int .i64 x:=by
  obtain ⟨hf,M,hG⟩:=hc
  have s1:=hG.2.1.slot j
  rw [h] at s1
  obtain ⟨cs,e,h1⟩:=s1
  have h1:cs=[.int .i64 x]:=h1
  subst h1
  exact e
theorem boolHD {s:HD.σ} {st:St} (hc:ConcH HD F M0 w0 s st a w) {j:Nat} {x:Bool} (h:get st j = .d .bool x):tm a j = .bool x:=by
  obtain ⟨hf,M,hG⟩:=hc
  have s1:=hG.2.1.slot j
  rw [h] at s1
  obtain ⟨cs,e,h1⟩:=s1
  have h1:cs=[.bool x]:=h1
  subst h1
  exact e
theorem sizeHD {s:HD.σ} {st:St} (hc:ConcH HD F M0 w0 s st a w) {N:Nat} (hl:st.length=N):a.tmps.size=N:=by
  obtain ⟨hf,M,hG⟩:=hc
  exact hG.2.1.size.trans hl
set_option maxRecDepth 4000 in
theorem push18 (hpl:∀ j v,M0.pin j=some v->False) (hc:ConcH HD F M0 w0 (⟨v,xs⟩:HL) (st10P k0 ps tot zs v nn i) a w) (hlen:xs.length<1000000000) (hQ:∀ v' a' w',ConcH HD F M0 w0 (⟨v',xs++[i]⟩:HL) (st10L k0 ps tot zs v' nn i) a' w'->Q .normal a' w'):(Code.region 18 r10_18 false).wpIn (fen none) n Tryz.prog Q a w:=by
  have t11:tm a 11=v:=rawHD hc rfl
  have t12:tm a 12 = .int .i64 i:=intHD hc rfl
  have hsz:=sizeHD hc (N:=90) rfl
  obtain ⟨hfr,M,hG⟩:=hc
  have hown:w.ownsRow 0 3 1 v xs.length (rowV xs):=hG.1
  refine wpIn_region ?_
  rw [show r10_18.size=5 by kernel_rfl]
  show wpOpsIn (fen none) n Tryz.prog r10_18 _ [0,1,2,3,4] a w
  obtain ⟨o0,i0,d0,p0,q0⟩:=infoAt info10_18 (i:=0) rfl
  simp only at d0 p0 q0
  rw [wpOpsIn_cons]
  refine opr_value i0 (wanted_none q0) (fun c h=>by rw [p0] at h;cases h) (ex_move p0) ?_
  rw [d0,t11]
  obtain ⟨a1,ha1⟩:∃ zz:Act,zz=Act.put a (some 65) (v):=⟨_,rfl⟩
  rw [<- ha1]
  have z1:a1.tmps.size=90:=by rw [ha1,size_put];exact hsz
  have t1_12:tm a1 12 = .int .i64 i:=by rw [ha1,tm_put_other (by omega)];exact t12
  obtain ⟨o1,i1,d1,p1,q1⟩:=infoAt info10_18 (i:=1) rfl
  simp only at d1 p1 q1
  rw [wpOpsIn_cons]
  refine opr_value i1 (wanted_none q1) (fun c h=>by rw [p1] at h;cases h) (ex_move p1) ?_
  rw [d1,t1_12]
  obtain ⟨a2,ha2⟩:∃ zz:Act,zz=Act.put a1 (some 66) (.int .i64 i):=⟨_,rfl⟩
  rw [<- ha2]
  have z2:a2.tmps.size=90:=by rw [ha2,size_put];exact z1
  have t2_66:tm a2 66 = .int .i64 i:=by rw [ha2];exact tm_put_same (by omega)
  obtain ⟨o2,i2,d2,p2,q2⟩:=infoAt info10_18 (i:=2) rfl
  simp only at d2 p2 q2
  rw [wpOpsIn_cons]
  refine opr_value i2 (wanted_none q2) (fun c h=>by rw [p2] at h;cases h) (ex_build29 p2 t2_66) ?_
  rw [d2]
  obtain ⟨a3,ha3⟩:∃ zz:Act,zz=Act.put a2 (some 67) (.slice (some ⟨w.heap.size,0,none⟩) 1 1):=⟨_,rfl⟩
  rw [<- ha3]
  have z3:a3.tmps.size=90:=by rw [ha3,size_put];exact z2
  obtain ⟨w1,hw1⟩:∃ b:World,b=w.alloc (.cells #[.int .i64 i] 3):=⟨_,rfl⟩
  rw [<- hw1]
  have l1:w1.heap.size=w.heap.size+1:=by rw [hw1];simp
  have k1:∀ k,k<w.heap.size->w1.heap[k]? = w.heap[k]? := fun k h=>by rw [hw1];exact heap_alloc_old w _ h
  have c1:w1.heap[w.heap.size]? = some (.cells #[.int .i64 i] 3 (0,0)):=by rw [hw1];exact heap_alloc_new w _
  have hcc:w1.cell? ⟨w.heap.size,0,none⟩=some (.int .i64 i):=by rw [cell_of_row w1 _ 0 _ _ _ c1];rfl
  have hvb:∀ g,ownB v=some g->g<w.heap.size:=fun g hg=>HD.lt (⟨v,xs⟩:HL) M w g hG.1 hg
  have hown1:w1.ownsRow 0 3 1 v (rowV xs).length (rowV xs):=by rw [rowV_len];exact owns_keep hown fun g hg=>k1 g (hvb g hg)
  have t1_65:tm a1 65=v:=by rw [ha1];exact tm_put_same (by omega)
  have t2_65:tm a2 65=v:=by rw [ha2,tm_put_other (by omega)];exact t1_65
  have t3_65:tm a3 65=v:=by rw [ha3,tm_put_other (by omega)];exact t2_65
  have t3_67:tm a3 67 = .slice (some ⟨w.heap.size,0,none⟩) 1 1:=by rw [ha3];exact tm_put_same (by omega)
  obtain ⟨o3,i3,d3,p3,q3⟩:=infoAt info10_18 (i:=3) rfl
  simp only at d3 p3 q3
  rw [wpOpsIn_cons]
  obtain ⟨v2,w2,hrd,hown2,hgrd,hblk⟩:=ex_app29 (a:=a3) (w:=w1) p3 t3_65 t3_67 hown1 hcc rfl (by rw [rowV_len];omega)
  refine opr_value (ro:=none) i3 (wanted_none q3) (fun c h=>by rw [p3] at h;cases h) hrd ?_
  rw [d3]
  obtain ⟨a4,ha4⟩:∃ zz:Act,zz=Act.put a3 (some 68) (v2):=⟨_,rfl⟩
  rw [<- ha4]
  have z4:a4.tmps.size=90:=by rw [ha4,size_put];exact z3
  have t4_68:tm a4 68=v2:=by rw [ha4];exact tm_put_same (by omega)
  obtain ⟨o4,i4,d4,p4,q4⟩:=infoAt info10_18 (i:=4) rfl
  simp only at d4 p4 q4
  rw [wpOpsIn_cons]
  refine opr_value i4 (wanted_none q4) (fun c h=>by rw [p4] at h;cases h) (ex_assign p4) ?_
  rw [d4,t4_68]
  obtain ⟨a5,ha5⟩:∃ zz:Act,zz=Act.put a4 (some 11) (v2):=⟨_,rfl⟩
  rw [<- ha5]
  have z5:a5.tmps.size=90:=by rw [ha5,size_put];exact z4
  have hown3:w2.ownsRow 0 3 1 v2 (xs++[i]).length (rowV (xs++[i])):=by
    have e:rowV xs++[.int .i64 i]=rowV (xs++[i]):=by unfold rowV;simp
    rw [e,rowV_len] at hown2
    exact hown2
  obtain ⟨M',hM'⟩:∃ M':Mut,M'=fun b o=>M b o\/(ownB v2=some b/\w.heap.size<=b):=⟨_,rfl⟩
  have hlt2:∀ g,ownB v2=some g->g<w2.heap.size:=fun g hg=>HD.lt (⟨v2,xs++[i]⟩:HL) M w2 g hown3 hg
  have hsz2:=hgrd.size
  have hgo:Fr (fun k=>k<w.heap.size/\¬ HD.hb (⟨v,xs⟩:HL) w k) w w2:=⟨hgrd.os.trans (by rw [hw1];rfl),hgrd.tape.trans (by rw [hw1];rfl),hgrd.output.trans (by rw [hw1];rfl),by omega,fun k hk=>(hgrd.block k (by omega) fun e=>hk.2 e.symm).trans (k1 k hk.1)⟩
  have hbs:∀ b,HD.hb (⟨v2,xs++[i]⟩:HL) w2 b->HD.hb (⟨v,xs⟩:HL) w b\/w.heap.size<=b:=fun b hb=>by
    have hb:ownB v2=some b:=hb
    rcases hblk with h|h
    . exact .inl (h.symm.trans hb)
    . rw [hb] at h;cases h;exact .inr (by omega)
  obtain ⟨f1,f2⟩:=hG.grow (s':=(⟨v2,xs++[i]⟩:HL)) (M':=M') (w':=w2) hgo (show HD.I (⟨v2,xs++[i]⟩:HL) M' w2 from hown3) (fun b o h=>by rw [hM'];exact .inr (.inl h)) (fun b o h=>by
    rw [hM'] at h
    rcases h with h|h
    . exact .inl h
    . exact .inr ⟨h.2,hlt2 b h.1⟩) hbs fun b hb o=>by
    rw [hM']
    rcases hbs b hb with h|h
    . exact .inl ((hG.2.2 b h).2.1 o)
    . exact .inr ⟨hb,h⟩
  have U:∀ {j:Nat},53<=j->get (st10P k0 ps tot zs v nn i) j = .und:=fun h=>st10P_und h
  have f3:=good_free (good_free (good_free (good_free f2 (d:=65) (U (by omega)) v) (d:=66) (U (by omega)) (.int .i64 i)) (d:=67) (U (by omega)) (.slice (some ⟨w.heap.size,0,none⟩) 1 1)) (d:=68) (U (by omega)) v2
  have f4:=good_put f3 (d:=11) (by rfl) (x:=.d .raw v2) rfl (v:=v2) ⟨[v2],by rfl,rfl,?_,?_⟩
  rotate_left
  . rcases hown3.2 with ⟨h,_⟩|⟨g,cap,cur,h,_⟩<;>(rw [h];rfl)
  . rcases hown3.2 with ⟨h,_⟩|⟨g,cap,cur,h,_⟩<;>(rw [h];rfl)
  have hcp:ConcH HD F M0 w0 (⟨v2,xs++[i]⟩:HL) ((st10P k0 ps tot zs v nn i).set 11 (.d .raw v2)) a5 w2:=by
    refine ⟨hfr.trans f1,M',?_⟩
    rw [ha5,ha4,ha3,ha2,ha1]
    exact f4
  exact hQ v2 _ w2 (conc_mask hcp hpl rfl (mask_keep [3,6,9,10,11,50,51] (by rfl) (fun k hk=>by
    simp only [List.mem_cons,List.not_mem_nil,or_false] at hk
    rcases hk with rfl|rfl|rfl|rfl|rfl|rfl|rfl<;>rfl)))
end
end Go.V
namespace Go.V
open Go.Proofs
open Go.RowKit (Below)
noncomputable def lb10a:Code:=.seq (.region 15 r10_15 false) (.seq (.cond (.tmp 52) .skip (.exit 2)) (.seq (.block 3 (.seq (.region 16 r10_16 false) (.seq (.region 17 r10_17 true) (.region 18 r10_18 false)))) (.region 19 r10_19 false)))
noncomputable def quotP (k0 tot:Int) (ps:List Int) (nn:Int):Nat->Int->List Int->List Int->Out (List Int×List Int)
  | 0,_,_,_=>.fail
  | m+1,i,zs,xs=>match decide (i<nn) with
    | false=>.ret (zs,xs)
    | true=>bif ((inb i ps.length && (tot != (0:Int))) && (inb i zs.length && decide (i.toNat<zs.length))) && decide (xs.length<1000000000) then quotP k0 tot ps nn m (IntKind.i64.wrap (i+1)) (List.set zs i.toNat (IntKind.i64.wrap ((IntKind.i64.wrap (k0 * (List.getD ps i.toNat (0:Int)))).tdiv tot))) (xs++[i]) else .fail
section
variable {n : Nat} {Q : Exit → Act → World → Prop} {F : Nat → Prop} {M0 : Base} {w0 : World} {k0 tot nn : Int} {ps : List Int}
set_option maxRecDepth 4000 in
theorem loop10a (hI:∀ w,Fr F w0 w->Inv.I Tryz.prog w) (hpl:∀ j v,M0.pin j=some v->False) {z:List Int×List Int} (hQ:∀ v i a w,ConcH HD F M0 w0 (⟨v,z.2⟩:HL) (st10L k0 ps tot z.1 v nn i) a w->Q (.exit 2) a w) :
    ∀ (m:Nat) (i:Int) (zs xs:List Int) (v:Value) (a:Act) (w:World),quotP k0 tot ps nn m i zs xs = .ret z->ConcH HD F M0 w0 (⟨v,xs⟩:HL) (st10L k0 ps tot zs v nn i) a w->Code.roundsIn (fen none) n Tryz.prog lb10a Q m a w:=by
  intro m
  induction m with
  | zero=>intro i zs xs v a w h;cases h
  | succ m ih =>
    intro i zs xs v a w h hc
    unfold quotP at h
    rw [roundsIn_succ]
    show Code.wpIn (fen none) n Tryz.prog (.seq (.region 15 r10_15 false) (.seq (.cond (.tmp 52) .skip (.exit 2)) (.seq (.block 3 (.seq (.region 16 r10_16 false) (.seq (.region 17 r10_17 true) (.region 18 r10_18 false)))) (.region 19 r10_19 false)))) _ a w
    refine wpIn_seq (vstepH (l:=[]) all_nil [] Ue10_15 (st':=st10C k0 ps tot zs v nn i) (fun k=>e10_15 nn k0 tot i ps zs v _ k) hI hpl hc fun a1 w1 hc1=>?_)
    have hb:tm a1 52 = .bool (decide (i<nn)):=boolHD hc1 rfl
    refine wpIn_seq ?_
    cases hd:decide (i<nn) with
    | false =>
      rw [hd] at h hb
      cases h
      refine wpIn_cond (t:=false) hb ?_
      simp only [Bool.false_eq_true,if_false]
      exact wpIn_exit (hQ v i a1 w1 (conc_mask hc1 hpl rfl (mask_keep [3,6,9,10,11,50,51] (by rfl) (fun k hk=>by
        simp only [List.mem_cons,List.not_mem_nil,or_false] at hk
        rcases hk with rfl|rfl|rfl|rfl|rfl|rfl|rfl<;>rfl))))
    | true =>
      rw [hd] at h hb
      dsimp only at h
      obtain ⟨hcd,h⟩:=bif_of h
      simp only [Bool.and_eq_true] at hcd
      obtain ⟨⟨⟨g1,g2⟩,g3,g4⟩,g5⟩:=hcd
      refine wpIn_cond (t:=true) hb ?_
      simp only [if_true]
      refine wpIn_skip (wpIn_seq (wpIn_block ?_))
      have hc2:ConcH HD F M0 w0 (⟨v,xs⟩:HL) (st10L k0 ps tot zs v nn i) a1 w1:=conc_mask hc1 hpl rfl (mask_keep [3,6,9,10,11,50,51] (by rfl) (fun k hk=>by
        simp only [List.mem_cons,List.not_mem_nil,or_false] at hk
        rcases hk with rfl|rfl|rfl|rfl|rfl|rfl|rfl<;>rfl))
      refine wpIn_seq (vstepH (l:=[]) all_nil [] Ue10_16 (st':=st10P k0 ps tot zs v nn i) (fun k=>e10_16 nn k0 tot i ps zs v _ k) hI hpl hc2 fun a3 w3 hc3=>?_)
      refine wpIn_seq (vstepH (l:=[]) all_nil [] Ue10_17 (st':=st10P k0 ps tot (List.set zs i.toNat (IntKind.i64.wrap ((IntKind.i64.wrap (k0 * (List.getD ps i.toNat (0:Int)))).tdiv tot))) v nn i) (fun k=>(e10_17 nn k0 tot i ps zs v _ k).trans (by rw [g1,g2,g3,g4];rfl)) hI hpl hc3 fun a4 w4 hc4=>?_)
      refine push18 hpl hc4 (by simpa using g5) fun v' a5 w5 hc5=>?_
      refine vstepH (l:=[]) all_nil [] Ue10_19 (st':=st10L k0 ps tot _ v' nn (IntKind.i64.wrap (i+1))) (fun k=>e10_19 nn k0 tot i ps _ v' _ k) hI hpl hc5 fun a6 w6 hc6=>ih _ _ _ _ _ _ h hc6
end
end Go.V
namespace Go.V
open Go.Proofs
open Go.RowKit (Below)
theorem row_data {w:World} {T:Nat} {v:Value} {xs:List Int} {M:Mut} (h:w.ownsRow 0 T 1 v xs.length (rowV xs)) (hM:∀ g,ownB v=some g->∀ o,¬ M g o):RepC M w (.list (.int .i64)) [v] xs:=by
  rcases h.2 with ⟨rfl,h0⟩|⟨g,cap,cur,rfl,_,hh,hle,_,hsz,ht⟩
  . have:xs=[]:=List.eq_nil_of_length_eq_zero h0
    subst this
    exact RepC.list_nil _
  . refine ⟨some ⟨g,0,none⟩,cap,rfl,hle,fun i hi=>⟨g,0,[.int .i64 xs[i]],rfl,rfl,fun j hj=>?_,rfl⟩⟩
    have hi:i<List.length (α:=Int) xs:=hi
    have hj:j=0:=by simpa using hj
    subst hj
    refine ⟨?_,hM g rfl _⟩
    show w.cell? ⟨g,0+i * 1+0,none⟩=some (.int .i64 (List.get (α:=Int) xs ⟨i,hi⟩))
    rw [show 0+i * 1+0=i by omega,cell_of_row w g i cur T (0,0) hh]
    have e:(cur.toList.take (xs.length * 1))[i]? = (rowV xs)[i]? := by rw [ht]
    rw [List.getElem?_take,if_pos (by omega),Array.getElem?_toList] at e
    rw [e]
    unfold rowV
    rw [List.getElem?_map,List.getElem?_eq_getElem hi]
    rfl
theorem arr_row {M:Mut} {w:World} {v:Value} {zs:List Int} (h:ArrAt M w (.int .i64) v zs):∃ T,w.ownsRow 0 T 1 v zs.length (rowV zs):=by
  rcases h with ⟨rfl,rfl⟩|⟨g,cap,cells,T,rfl,hh,hle,hcm,hsz,hM,hc⟩
  . exact ⟨0,rfl,.inl ⟨rfl,rfl⟩⟩
  . refine ⟨T,by rw [rowV_len,Nat.mul_one],.inr ⟨g,cap,cells,rfl,Nat.zero_le _,hh,hle,hcm,hsz,?_⟩⟩
    have hsz:cells.size=cap * 1:=hsz
    have hle:List.length (α:=Int) zs<=cap:=hle
    apply List.ext_getElem?
    intro i
    rw [Nat.mul_one,List.getElem?_take]
    unfold rowV
    rw [List.getElem?_map]
    split
    . rename_i hi
      have h1:(cells.toList.drop (i * 1)).take 1=[.int .i64 (List.get (α:=Int) zs ⟨i,hi⟩)]:=hc i hi
      rw [Nat.mul_one] at h1
      have h2:((cells.toList.drop i).take 1)[0]? = some (Value.int .i64 (List.get (α:=Int) zs ⟨i,hi⟩)):=by rw [h1];rfl
      rw [List.getElem?_take,if_pos (by omega),List.getElem?_drop,Nat.add_zero] at h2
      rw [h2,List.getElem?_eq_getElem hi]
      rfl
    . rename_i hi
      rw [List.getElem?_eq_none (by omega)]
      rfl
section
variable {a : Act} {w : World} {o : Oper}
end
section
variable {n : Nat} {Q : Exit → Act → World → Prop} {F : Nat → Prop} {M0 : Base} {w0 : World} {a : Act} {w : World} {k0 tot nn i : Int} {ps zs : List Int} {v : Value} {xs : List Int}
theorem good_below {s:HD.σ} {M:Mut} {st:St} {w':World} (hG:GoodH HD F M0 s M st a w) (hb:Below w.heap.size w w'):Fr F w w'/\GoodH HD F M0 s M st a w':=by
  refine hG.grow ⟨hb.os,hb.tape,hb.output,hb.size,fun k hk=>hb.block k hk.1⟩ ?_ (fun b o h=>.inr h) (fun b o h=>.inl h) (fun b h=>.inl h) fun b h o=>(hG.2.2 b h).2.1 o
  exact owns_keep (show w.ownsRow 0 3 1 (show HL from s).v (show HL from s).xs.length (rowV (show HL from s).xs) from hG.1) fun g hg=>hb.block g (HD.lt s M w g hG.1 hg)
end
end Go.V
namespace Go.V
open Go.Proofs
open Go.RowKit (Below)
theorem und10M {k0:Int} {ps:List Int} {tot:Int} {zs:List Int} {v:Value} {m t:Int} {j:Nat} (h:12<=j) (h3:j≠73) (h4:j≠74):get (st10M k0 ps tot zs v m t) j = .und:=by
  by_cases hj:j<90
  . have h1:((List.range 90).all fun k=>decide (k<12) || (k==73 || k==74) || (match get (st10M k0 ps tot zs v m t) k with | .und=>true|_=>false))=true:=by rfl
    have h2:=List.all_eq_true.1 h1 j (List.mem_range.2 hj)
    simp only [Bool.or_eq_true,decide_eq_true_eq,beq_iff_eq] at h2
    rcases h2 with (h2|h2|h2)|h2
    . omega
    . exact absurd h2 h3
    . exact absurd h2 h4
    . revert h2
      cases e:get (st10M k0 ps tot zs v m t) j with
      | und=>exact fun _=>rfl
      | _=>exact fun h=>by cases h
  . unfold get
    rw [List.getD_eq_getElem?_getD,List.getElem?_eq_none (by show 90<=j;omega)]
    rfl
section
variable {a : Act} {w : World} {o : Oper}
theorem ex_make36 (ho:o.op = .makeFunc (.func 36) #[] #[.tmp 3,.tmp 6,.tmp 9]) {p3 p6 p9:Value} (h3:tm a 3=p3) (h6:tm a 6=p6) (h9:tm a 9=p9):(execOp a.eval o).run Tryz.prog w = .ok (.value (.func (.func 36) #[] #[p3,p6,p9])) w:=by
  have e3:a.eval (.tmp 3)=p3:=h3
  have e6:a.eval (.tmp 6)=p6:=h6
  have e9:a.eval (.tmp 9)=p9:=h9
  simp only [execOp,ho,List.map_toArray,List.map_cons,List.map_nil,e3,e6,e9]
  simp [go_sem,Instr.makeFunc]
theorem ex_callR2 {f p q:Nat} {Ts:Array Nat} (hent:enters Tryz.prog f=true) (ho:o.op = .call { callee:=.value (.func f),args := #[.tmp p,.tmp q],argTypes:=Ts }) {v u:Value} (h1:tm a p=v) (h2:tm a q=u):(execOp a.eval o).run Tryz.prog w = .ok (.enter f #[v,u]) w:=by
  have e1:a.eval (.tmp p)=v:=h1
  have e2:a.eval (.tmp q)=u:=h2
  have e4:a.eval (.func f) = .func (.func f) #[] #[]:=rfl
  have e3:=enters_run (P:=Tryz.prog) (g:=f) hent #[v,u] w
  simp [execOp,ho,resolve,e1,e2,e4,Deferred.ofValue,invoke,e3]
theorem ex_alloc3 (ho:o.op = .alloc 3):(execOp a.eval o).run Tryz.prog w = .ok (.value (.pointer (some ⟨w.heap.size,0,none⟩))) (w.alloc (.cells #[.int .i64 0] 3)):=by
  simp only [execOp,ho]
  simp [go_sem]
end
section
variable {n : Nat} {Q : Exit → Act → World → Prop} {F : Nat → Prop} {M0 : Base} {w0 : World} {a : Act} {w : World} {k0 tot nn i m t j : Int} {ps zs : List Int} {v : Value} {xs : List Int}
theorem repc_less {M M2:Mut} {w:World} (h:∀ b o,M2 b o->M b o) (ty:Ty) (cs:List Value) (x:ty.den) (hr:RepC M w ty cs x):RepC M2 w ty cs x:=RepC.mono (fun b o u e hn=>⟨e,fun h2=>hn (h b o h2)⟩) _ _ _ hr
set_option maxRecDepth 4000 in
theorem r22_wp (hI:∀ w,Fr F w0 w->Inv.I Tryz.prog w) (h35:f35a (xs,(((),(k0,(ps,(tot,())))),())) = .ret j) (hc:ConcH HD F M0 w0 (⟨v,xs⟩:HL) (st10M k0 ps tot zs v m t) a w) (hQ:∀ a' w',ConcH HD F M0 w0 (⟨v,xs⟩:HL) (st10J k0 ps tot zs v m t j) a' w'->Q .normal a' w'):(Code.region 22 r10_22 false).wpIn (fen none) n Tryz.prog Q a w:=by
  have hsz:=sizeHD hc (N:=90) rfl
  have t11:tm a 11=v:=rawHD hc rfl
  obtain ⟨hfr,M,hG⟩:=hc
  have hown:w.ownsRow 0 3 1 v xs.length (rowV xs):=hG.1
  have s3:SlotOK M w (st10M k0 ps tot zs v m t) a (tm a 3) (.ref (.int .i64) k0):=hG.2.1.slot 3
  have s6:SlotOK M w (st10M k0 ps tot zs v m t) a (tm a 6) (.ref (.list (.int .i64)) ps):=hG.2.1.slot 6
  have s9:SlotOK M w (st10M k0 ps tot zs v m t) a (tm a 9) (.ref (.int .i64) tot):=hG.2.1.slot 9
  obtain ⟨c3,e3,r3⟩:=ref_ptr s3
  obtain ⟨c6,e6,r6⟩:=ref_ptr s6
  obtain ⟨c9,e9,r9⟩:=ref_ptr s9
  obtain ⟨pp3,hpp3⟩:∃ z,z=tm a 3:=⟨_,rfl⟩
  obtain ⟨pp6,hpp6⟩:∃ z,z=tm a 6:=⟨_,rfl⟩
  obtain ⟨pp9,hpp9⟩:∃ z,z=tm a 9:=⟨_,rfl⟩
  rw [<- hpp3] at e3
  rw [<- hpp6] at e6
  rw [<- hpp9] at e9
  have one:∀ {t:Ty} {cs:List Value} {x:t.den} {p:Value},p=toVal (.ptr t) cs->RepC M w (.ptr t) cs x->cs=[p]:=fun {t cs x p} h1 h2=>by
    obtain ⟨b,o,ec,h3,_⟩:=h2
    rw [h3] at h1 ⊢
    rw [h1]
    rfl
  have e3:=one e3 r3
  have e6:=one e6 r6
  have e9:=one e9 r9
  rw [e3] at r3
  rw [e6] at r6
  rw [e9] at r9
  refine wpIn_region ?_
  rw [show r10_22.size=5 by kernel_rfl]
  show wpOpsIn (fen none) n Tryz.prog r10_22 _ [0,1,2,3,4] a w
  obtain ⟨o0,i0,d0,p0,q0⟩:=infoAt info10_22 (i:=0) rfl
  simp only at d0 p0 q0
  rw [wpOpsIn_cons]
  refine opr_value i0 (wanted_none q0) (fun c h=>by rw [p0] at h;cases h) (ex_move p0) ?_
  rw [d0,t11]
  obtain ⟨a1,ha1⟩:∃ zz:Act,zz=Act.put a (some 76) (v):=⟨_,rfl⟩
  rw [<- ha1]
  have z1:a1.tmps.size=90:=by rw [ha1,size_put];exact hsz
  have t1_3:tm a1 3=pp3:=by rw [ha1,tm_put_other (by omega)];exact hpp3.symm
  have t1_6:tm a1 6=pp6:=by rw [ha1,tm_put_other (by omega)];exact hpp6.symm
  have t1_9:tm a1 9=pp9:=by rw [ha1,tm_put_other (by omega)];exact hpp9.symm
  obtain ⟨o1,i1,d1,p1,q1⟩:=infoAt info10_22 (i:=1) rfl
  simp only at d1 p1 q1
  rw [wpOpsIn_cons]
  refine opr_value i1 (wanted_none q1) (fun c h=>by rw [p1] at h;cases h) (ex_make36 p1 t1_3 t1_6 t1_9) ?_
  rw [d1]
  obtain ⟨a2,ha2⟩:∃ zz:Act,zz=Act.put a1 (some 77) (.func (.func 36) #[] #[pp3,pp6,pp9]):=⟨_,rfl⟩
  rw [<- ha2]
  have z2:a2.tmps.size=90:=by rw [ha2,size_put];exact z1
  have t1_76:tm a1 76=v:=by rw [ha1];exact tm_put_same (by omega)
  have t2_76:tm a2 76=v:=by rw [ha2,tm_put_other (by omega)];exact t1_76
  have t2_77:tm a2 77 = .func (.func 36) #[] #[pp3,pp6,pp9]:=by rw [ha2];exact tm_put_same (by omega)
  obtain ⟨o2,i2,d2,p2,q2⟩:=infoAt info10_22 (i:=2) rfl
  simp only at d2 p2 q2
  rw [wpOpsIn_cons]
  have less:∀ b o,(M b o/\ownB v≠some b)->M b o:=fun b o h=>h.1
  have hrep:RepC (fun b o=>M b o/\ownB v≠some b) w (.list (.int .i64)) [v] xs:=row_data hown fun g hg o h=>h.2 hg
  have hclo:RepC (fun b o=>M b o/\ownB v≠some b) w (.clo 36 .unit (.prod (.ptr (.int .i64)) (.prod (.ptr (.list (.int .i64))) (.prod (.ptr (.int .i64)) .unit)))) [.func (.func 36) #[] #[pp3,pp6,pp9]] ((),(k0,(ps,(tot,())))) :=
    ⟨[],[pp3,pp6,pp9],rfl,rfl,[pp3],_,rfl,repc_less less _ _ _ r3,[pp6],_,rfl,repc_less less _ _ _ r6,[pp9],[],rfl,repc_less less _ _ _ r9,rfl⟩
  have hcall:=c35a (xs,(((),(k0,(ps,(tot,())))),())) (fun b o=>M b o/\ownB v≠some b) w #[v,.func (.func 36) #[] #[pp3,pp6,pp9]] (hI w hfr) ⟨v,_,rfl,⟨[v],by rcases hown.2 with ⟨h,_⟩|⟨_,_,_,h,_⟩<;>(rw [h];rfl),hrep⟩,_,[],rfl,⟨[_],rfl,hclo⟩,rfl⟩ (fun b o h=>hG.2.1.lt b o h.1)
  have hcall:Calls Tryz.prog 35 #[v,.func (.func 36) #[] #[pp3,pp6,pp9]] w fun e w'=>∃ y,e = .returned y/\Below w.heap.size w w'/\ResOK (fun b o=>M b o/\ownB v≠some b) w w' false false (.int .i64) y j:=by
    have e:sp35a.f (xs,(((),(k0,(ps,(tot,())))),())) = .ret j:=h35
    rw [e] at hcall
    exact hcall
  refine opr_enter (ro:=none) i2 (wanted_none q2) (fun c h=>by rw [p2] at h;cases h) (ex_callR2 (by kernel_rfl) p2 t2_76 t2_77) (hcall.mono ?_)
  rintro e w1 ⟨y,rfl,hbel,_,_,_,⟨cs,hy1,hy2⟩,_⟩
  have hy2:cs=[.int .i64 j]:=hy2
  subst hy2
  have hy:y = .int .i64 j:=hy1
  subst hy
  refine ⟨_,rfl,?_⟩
  rw [d2]
  obtain ⟨a3,ha3⟩:∃ zz:Act,zz=Act.put a2 (some 78) (.int .i64 j):=⟨_,rfl⟩
  rw [<- ha3]
  have z3:a3.tmps.size=90:=by rw [ha3,size_put];exact z2
  obtain ⟨o3,i3,d3,p3,q3⟩:=infoAt info10_22 (i:=3) rfl
  simp only at d3 p3 q3
  rw [wpOpsIn_cons]
  refine opr_value i3 (wanted_none q3) (fun c h=>by rw [p3] at h;cases h) (ex_alloc3 p3) ?_
  rw [d3]
  obtain ⟨a4,ha4⟩:∃ zz:Act,zz=Act.put a3 (some 13) (.pointer (some ⟨w1.heap.size,0,none⟩)):=⟨_,rfl⟩
  rw [<- ha4]
  have z4:a4.tmps.size=90:=by rw [ha4,size_put];exact z3
  obtain ⟨w2,hw2⟩:∃ b:World,b=w1.alloc (.cells #[.int .i64 0] 3):=⟨_,rfl⟩
  rw [<- hw2]
  have c2:w2.heap[w1.heap.size]? = some (.cells #[.int .i64 0] 3 (0,0)):=by rw [hw2];exact heap_alloc_new w1 _
  have t4_13:tm a4 13 = .pointer (some ⟨w1.heap.size,0,none⟩):=by rw [ha4];exact tm_put_same (by omega)
  have t3_78:tm a3 78 = .int .i64 j:=by rw [ha3];exact tm_put_same (by omega)
  have t4_78:tm a4 78 = .int .i64 j:=by rw [ha4,tm_put_other (by omega)];exact t3_78
  obtain ⟨o4,i4,d4,p4,q4⟩:=infoAt info10_22 (i:=4) rfl
  simp only at d4 p4 q4
  rw [wpOpsIn_cons]
  refine opr_skipped i4 (wanted_none q4) (fun c h=>by rw [p4] at h;cases h) (ex_store1 (t:=.int .i64) (by kernel_rfl) rfl p4 t4_13 t4_78 rfl rfl c2) ?_
  rw [d4,put_none]
  obtain ⟨w3,hw3⟩:∃ b:World,b=w2.setRow w1.heap.size #[.int .i64 j]:=⟨_,rfl⟩
  rw [<- hw3]
  have c3:w3.heap[w1.heap.size]? = some (.cells #[.int .i64 j] 3 (0,0)):=by rw [hw3];exact setRow_same c2
  have l2:w2.heap.size=w1.heap.size+1:=by rw [hw2];simp
  have l3:w3.heap.size=w1.heap.size+1:=by rw [hw3,setRow_size];exact l2
  have hold:∀ k,k<w1.heap.size->w3.heap[k]? = w1.heap[k]? := fun k hk=>by rw [hw3,setRow_other (by omega),hw2,heap_alloc_old w1 _ hk]
  have hb3:Below w1.heap.size w1 w3:=⟨by rw [hw3,hw2];rfl,by rw [hw3,hw2];rfl,by rw [hw3,hw2];rfl,by omega,hold⟩
  obtain ⟨f1,f2⟩:=good_below hG hbel
  obtain ⟨g1,g2⟩:=good_below f2 hb3
  have hnM:∀ o,¬ M w1.heap.size o:=fun o h=>by have:=f2.2.1.lt _ o h;omega
  have U:∀ {j:Nat},12<=j->j≠73->j≠74->get (st10M k0 ps tot zs v m t) j = .und:=fun h1 h2 h3=>und10M h1 h2 h3
  have f3:=good_free (good_free (good_free g2 (d:=76) (U (by omega) (by omega) (by omega)) v) (d:=77) (U (by omega) (by omega) (by omega)) (.func (.func 36) #[] #[pp3,pp6,pp9])) (d:=78) (U (by omega) (by omega) (by omega)) (.int .i64 j)
  have f4:=good_put f3 (d:=13) (by rw [U (by omega) (by omega) (by omega)];rfl) (x:=.ref (.int .i64) j) rfl (v:=.pointer (some ⟨w1.heap.size,0,none⟩)) ⟨w1.heap.size,0,[.int .i64 j],rfl,rfl,fun q hq=>by
    have hq:q=0:=by simpa using hq
    subst hq
    exact ⟨by rw [cell_of_row w3 _ _ _ _ _ c3];rfl,hnM _⟩,rfl⟩
  refine hQ _ w3 ⟨(hfr.trans f1).trans g1,M,?_⟩
  rw [ha4,ha3,ha2,ha1]
  exact f4
end
end Go.V
namespace Go.V
open Go.Proofs
open Go.RowKit (Below)
def strike (xs:List Int) (j:Int):List Int:=xs.filter fun x => !(x==j)
theorem row_holds {w:World} {g cap:Nat} {xs:List Int} (h:w.ownsRow 0 3 1 (.slice (some ⟨g,0,none⟩) xs.length cap) xs.length (rowV xs)):Sort.Holds (Value.int .i64) w g 0 xs.toArray:=by
  rcases h.2 with ⟨e,_⟩|⟨g',cap',cur,e,_,hh,hle,_,hsz,ht⟩
  . cases e
  cases e
  intro i hi
  have hi:i<xs.length:=by simpa using hi
  have e:(cur.toList.take (xs.length * 1))[i]? = (rowV xs)[i]? := by rw [ht]
  rw [List.getElem?_take,if_pos (by omega),Array.getElem?_toList] at e
  refine ⟨?_,?_⟩
  . rw [Nat.zero_add,cell_of_row w g i cur 3 (0,0) hh,e]
    unfold rowV
    rw [List.getElem?_map,List.getElem?_eq_getElem hi,getElem!_pos _ i (by simpa using hi)]
    simp
  . unfold World.frozen?
    simp [hh]
theorem row_put {w:World} {g cap q:Nat} {xs ys zs:List Int} (h:w.ownsRow 0 3 1 (.slice (some ⟨g,0,none⟩) xs.length cap) xs.length (rowV xs)) (hl:ys.length+zs.length=xs.length):(Sort.putRow (Value.int .i64) (Sort.ahead w q) g 0 (ys++zs).toArray).ownsRow 0 3 1 (.slice (some ⟨g,0,none⟩) ys.length cap) ys.length (rowV ys):=by
  rcases h.2 with ⟨e,_⟩|⟨g',cap',cur,e,_,hh,hle,hcm,hsz,ht⟩
  . cases e
  cases e
  refine ⟨by rw [rowV_len,Nat.mul_one],.inr ⟨g,cap,Sort.putCells (Value.int .i64) 0 (ys++zs).toArray cur,rfl,Nat.zero_le _,?_,by omega,hcm,by unfold Sort.putCells;simpa using hsz,?_⟩⟩
  . unfold Sort.putRow Sort.mapBlock Sort.ahead
    simp only [Array.getElem?_modify]
    rw [if_pos trivial,hh]
    rfl
  . apply List.ext_getElem?
    intro i
    rw [Nat.mul_one,List.getElem?_take]
    unfold rowV Sort.putCells
    rw [List.getElem?_map]
    split
    . rename_i hi
      have h1:i<cur.size:=by omega
      rw [Array.getElem?_toList,Array.getElem?_mapIdx,Array.getElem?_eq_getElem h1,List.getElem?_eq_getElem hi]
      have h2:i<(ys++zs).length:=by simp;omega
      simp only [Option.map_some,Nat.zero_le,true_and,Nat.zero_add,Nat.sub_zero]
      rw [if_pos (by simpa using h2),getElem!_pos _ i (by simpa using h2)]
      simp [List.getElem_append_left hi]
    . rename_i hi
      rw [List.getElem?_eq_none (by omega)]
      rfl
theorem strike_len (xs:List Int) (j:Int):(strike xs j).length<=xs.length:=by unfold strike;exact List.length_filter_le _ _
theorem und10J {k0:Int} {ps:List Int} {tot:Int} {zs:List Int} {v:Value} {m t jj:Int} {j:Nat} (h:14<=j) (h3:j≠73) (h4:j≠74):get (st10J k0 ps tot zs v m t jj) j = .und:=by
  by_cases hj:j<90
  . have h1:((List.range 90).all fun k=>decide (k<14) || (k==73 || k==74) || (match get (st10J k0 ps tot zs v m t jj) k with | .und=>true|_=>false))=true:=by rfl
    have h2:=List.all_eq_true.1 h1 j (List.mem_range.2 hj)
    simp only [Bool.or_eq_true,decide_eq_true_eq,beq_iff_eq] at h2
    rcases h2 with (h2|h2|h2)|h2
    . omega
    . exact absurd h2 h3
    . exact absurd h2 h4
    . revert h2
      cases e:get (st10J k0 ps tot zs v m t jj) j with
      | und=>exact fun _=>rfl
      | _=>exact fun h=>by cases h
  . unfold get
    rw [List.getD_eq_getElem?_getD,List.getElem?_eq_none (by show 90<=j;omega)]
    rfl
section
variable {a : Act} {w : World} {o : Oper}
theorem ex_make38 (ho:o.op = .makeFunc (.func 38) #[] #[.tmp 13]) {q:Value} (h:tm a 13=q):(execOp a.eval o).run Tryz.prog w = .ok (.value (.func (.func 38) #[] #[q])) w:=by
  have e3:a.eval (.tmp 13)=q:=h
  simp only [execOp,ho,List.map_toArray,List.map_cons,List.map_nil,e3]
  simp [go_sem,Instr.makeFunc]
end
section
variable {n : Nat} {Q : Exit → Act → World → Prop} {F : Nat → Prop} {M0 : Base} {w0 : World} {a : Act} {w : World} {k0 tot nn i m t j : Int} {ps zs : List Int} {v : Value} {xs : List Int}
set_option maxRecDepth 4000 in
theorem r24_wp (hpl:∀ j v,M0.pin j=some v->False) (hne:xs≠[]) (hlen:xs.length<1000000000) (hc:ConcH HD F M0 w0 (⟨v,xs⟩:HL) (st10J k0 ps tot zs v m t j) a w) (hQ:∀ v' a' w',ConcH HD F M0 w0 (⟨v',strike xs j⟩:HL) (st10M k0 ps tot zs v' m t) a' w'->Q .normal a' w'):(Code.region 24 r10_24 false).wpIn (fen none) n Tryz.prog Q a w:=by
  have hsz:=sizeHD hc (N:=90) rfl
  have t11:tm a 11=v:=rawHD hc rfl
  obtain ⟨hfr,M,hG⟩:=hc
  have hown:w.ownsRow 0 3 1 v xs.length (rowV xs):=hG.1
  have s13:SlotOK M w (st10J k0 ps tot zs v m t j) a (tm a 13) (.ref (.int .i64) j):=hG.2.1.slot 13
  obtain ⟨B,off,cs,hB1,hB2,hB3,hB4⟩:=s13
  have hB4:cs=[.int .i64 j]:=hB4
  subst hB4
  have hcell:w.cell? ⟨B,off,none⟩=some (.int .i64 j):=(hB3 0 (by simp)).1
  have hBM:¬ M B off:=(hB3 0 (by simp)).2
  have hBlt:B<w.heap.size:=cell_lt hcell
  obtain ⟨g,cap,rfl⟩:∃ g cap,v = .slice (some ⟨g,0,none⟩) xs.length cap:=by
    rcases hown.2 with ⟨_,h0⟩|⟨g,cap,_,h,_⟩
    . exact absurd (List.eq_nil_of_length_eq_zero h0) hne
    . exact ⟨g,cap,h⟩
  have hcap:xs.length<=cap:=by
    rcases hown.2 with ⟨h,_⟩|⟨_,_,_,h,_,_,hle,_⟩
    . cases h
    . cases h;exact hle
  have hBg:B≠g:=fun e=>hBM ((hG.2.2 B (by rw [e];rfl)).2.1 off)
  have hglt:g<w.heap.size:=HD.lt (⟨.slice (some ⟨g,0,none⟩) xs.length cap,xs⟩:HL) M w g hG.1 rfl
  refine wpIn_region ?_
  rw [show r10_24.size=4 by kernel_rfl]
  show wpOpsIn (fen none) n Tryz.prog r10_24 _ [0,1,2,3] a w
  obtain ⟨o0,i0,d0,p0,q0⟩:=infoAt info10_24 (i:=0) rfl
  simp only at d0 p0 q0
  rw [wpOpsIn_cons]
  refine opr_value i0 (wanted_none q0) (fun c h=>by rw [p0] at h;cases h) (ex_move p0) ?_
  rw [d0,t11]
  obtain ⟨a1,ha1⟩:∃ zz:Act,zz=Act.put a (some 85) (.slice (some ⟨g,0,none⟩) xs.length cap):=⟨_,rfl⟩
  rw [<- ha1]
  have z1:a1.tmps.size=90:=by rw [ha1,size_put];exact hsz
  have t1_13:tm a1 13 = .pointer (some ⟨B,off,none⟩):=by rw [ha1,tm_put_other (by omega)];exact hB1
  obtain ⟨o1,i1,d1,p1,q1⟩:=infoAt info10_24 (i:=1) rfl
  simp only at d1 p1 q1
  rw [wpOpsIn_cons]
  refine opr_value i1 (wanted_none q1) (fun c h=>by rw [p1] at h;cases h) (ex_make38 p1 t1_13) ?_
  rw [d1]
  obtain ⟨a2,ha2⟩:∃ zz:Act,zz=Act.put a1 (some 86) (.func (.func 38) #[] #[.pointer (some ⟨B,off,none⟩)]):=⟨_,rfl⟩
  rw [<- ha2]
  have z2:a2.tmps.size=90:=by rw [ha2,size_put];exact z1
  have t1_85:tm a1 85 = .slice (some ⟨g,0,none⟩) xs.length cap:=by rw [ha1];exact tm_put_same (by omega)
  have t2_85:tm a2 85 = .slice (some ⟨g,0,none⟩) xs.length cap:=by rw [ha2,tm_put_other (by omega)];exact t1_85
  have t2_86:tm a2 86 = .func (.func 38) #[] #[.pointer (some ⟨B,off,none⟩)]:=by rw [ha2];exact tm_put_same (by omega)
  obtain ⟨o2,i2,d2,p2,q2⟩:=infoAt info10_24 (i:=2) rfl
  simp only at d2 p2 q2
  rw [wpOpsIn_cons]
  refine opr_enter (ro:=none) i2 (wanted_none q2) (fun c h=>by rw [p2] at h;cases h) (ex_callR2 (by kernel_rfl) p2 t2_85 t2_86) ((delete_calls (row_holds hown) hcap hlen hBlt hBg hcell).mono ?_)
  rintro e w1 ⟨rfl,q,hw1⟩
  refine ⟨.slice (some ⟨g,0,none⟩) (strike xs j).length cap,rfl,?_⟩
  rw [d2]
  obtain ⟨a3,ha3⟩:∃ zz:Act,zz=Act.put a2 (some 87) (.slice (some ⟨g,0,none⟩) (strike xs j).length cap):=⟨_,rfl⟩
  rw [<- ha3]
  have z3:a3.tmps.size=90:=by rw [ha3,size_put];exact z2
  have t3_87:tm a3 87 = .slice (some ⟨g,0,none⟩) (strike xs j).length cap:=by rw [ha3];exact tm_put_same (by omega)
  obtain ⟨o3,i3,d3,p3,q3⟩:=infoAt info10_24 (i:=3) rfl
  simp only at d3 p3 q3
  rw [wpOpsIn_cons]
  refine opr_value i3 (wanted_none q3) (fun c h=>by rw [p3] at h;cases h) (ex_assign p3) ?_
  rw [d3,t3_87]
  obtain ⟨a4,ha4⟩:∃ zz:Act,zz=Act.put a3 (some 11) (.slice (some ⟨g,0,none⟩) (strike xs j).length cap):=⟨_,rfl⟩
  rw [<- ha4]
  have z4:a4.tmps.size=90:=by rw [ha4,size_put];exact z3
  have hsl:=strike_len xs j
  have hown1:w1.ownsRow 0 3 1 (.slice (some ⟨g,0,none⟩) (strike xs j).length cap) (strike xs j).length (rowV (strike xs j)):=by
    rw [hw1]
    exact row_put hown (by rw [List.length_replicate];unfold strike at hsl;omega)
  have hs1:w1.heap.size=w.heap.size:=by rw [hw1,Sort.size_putRow];rfl
  have hb1:∀ k,k≠g->w1.heap[k]? = w.heap[k]? := fun k hk=>by rw [hw1];exact putRow_block hk
  have hgo:Fr (fun k=>k<w.heap.size/\¬ HD.hb (⟨.slice (some ⟨g,0,none⟩) xs.length cap,xs⟩:HL) w k) w w1:=⟨by rw [hw1];rfl,by rw [hw1];rfl,by rw [hw1];rfl,by omega,fun k hk=>hb1 k fun e=>hk.2 (by rw [e];rfl)⟩
  obtain ⟨f1,f2⟩:=hG.grow (s':=(⟨.slice (some ⟨g,0,none⟩) (strike xs j).length cap,strike xs j⟩:HL)) (M':=M) (w':=w1) hgo (show HD.I (⟨.slice (some ⟨g,0,none⟩) (strike xs j).length cap,strike xs j⟩:HL) M w1 from hown1) (fun b o h=>.inr h) (fun b o h=>.inl h) (fun b h=>.inl h) fun b h o=>(hG.2.2 b h).2.1 o
  have U:∀ {q:Nat},14<=q->q≠73->q≠74->get (st10J k0 ps tot zs (.slice (some ⟨g,0,none⟩) xs.length cap) m t j) q = .und:=fun h1 h2 h3=>und10J h1 h2 h3
  have f3:=good_free (good_free (good_free f2 (d:=85) (U (by omega) (by omega) (by omega)) (.slice (some ⟨g,0,none⟩) xs.length cap)) (d:=86) (U (by omega) (by omega) (by omega)) (.func (.func 38) #[] #[.pointer (some ⟨B,off,none⟩)])) (d:=87) (U (by omega) (by omega) (by omega)) (.slice (some ⟨g,0,none⟩) (strike xs j).length cap)
  have f4:=good_put f3 (d:=11) (by rfl) (x:=.d .raw (.slice (some ⟨g,0,none⟩) (strike xs j).length cap)) rfl (v:=.slice (some ⟨g,0,none⟩) (strike xs j).length cap) ⟨[_],rfl,rfl,rfl,rfl⟩
  have hcp:ConcH HD F M0 w0 (⟨.slice (some ⟨g,0,none⟩) (strike xs j).length cap,strike xs j⟩:HL) ((st10J k0 ps tot zs (.slice (some ⟨g,0,none⟩) xs.length cap) m t j).set 11 (.d .raw (.slice (some ⟨g,0,none⟩) (strike xs j).length cap))) a4 w1:=by
    refine ⟨hfr.trans f1,M,?_⟩
    rw [ha4,ha3,ha2,ha1]
    exact f4
  exact hQ _ _ w1 (conc_mask hcp hpl rfl (mask_keep [3,6,9,10,11,73,74] (by rfl) (fun k hk=>by
    simp only [List.mem_cons,List.not_mem_nil,or_false] at hk
    rcases hk with rfl|rfl|rfl|rfl|rfl|rfl|rfl<;>rfl)))
end
end Go.V
namespace Go.V
open Go.Proofs
open Go.RowKit (Below)
theorem row_cells {w:World} {T n:Nat} {v:Value} {us:List Value} (h:w.ownsRow 0 T 1 v n us) {b:Nat} (hb:ownB v=some b):∃ cur,w.heap[b]? = some (.cells cur T (0,0)):=by
  rcases h.2 with ⟨e,_⟩|⟨g,cap,cur,e,_,h1,_⟩
  . rw [e] at hb;cases hb
  . rw [e] at hb;cases hb;exact ⟨cur,h1⟩
structure HL2 where
  v:Value
  xs:List Int
  z:Value
  zs:List Int
structure IE (s:HL2) (w:World):Prop where
  r1:w.ownsRow 0 3 1 s.v s.xs.length (rowV s.xs)
  r2:∃ T,w.ownsRow 0 T 1 s.z s.zs.length (rowV s.zs)
  ne:∀ g,ownB s.v=some g->ownB s.z≠some g
def HE:Hole where
  σ:=HL2
  hb s _ b:=ownB (show HL2 from s).v=some b\/ownB (show HL2 from s).z=some b
  I s _ w:=IE s w
  keep s M w M' w' h _ hk:=⟨owns_keep h.r1 fun g hg=>hk g (.inl hg),h.r2.imp fun T hT=>owns_keep hT fun g hg=>hk g (.inr hg),h.ne⟩
  same s M w w' _ _ b h:=h
  lt s M w b h hb:=by
    obtain ⟨T,hT⟩:=h.r2
    rcases hb with hb|hb
    . obtain ⟨cur,e⟩:=row_cells h.r1 hb;exact (Array.getElem?_eq_some_iff.1 e).1
    . obtain ⟨cur,e⟩:=row_cells hT hb;exact (Array.getElem?_eq_some_iff.1 e).1
  nd s M w b c h hb e0:=by
    obtain ⟨T,hT⟩:=h.r2
    rcases hb with hb|hb
    . obtain ⟨cur,e⟩:=row_cells h.r1 hb;rw [e] at e0;cases e0
    . obtain ⟨cur,e⟩:=row_cells hT hb;rw [e] at e0;cases e0
noncomputable def f34r (s:HL2) (x:Value×Unit):Out Int:=bif isV x.1 s.z then f34 (s.zs,x.2) else .fail
noncomputable def sp34r (s:HL2):Spec:=⟨34,.call,.prod .raw .unit,.int .i64,false,false,f34r s⟩
theorem c34r (s:HL2):MContract Tryz.prog HE s (sp34r s):=by
  intro x M w vs r hI hH hvs hlt hM hf
  have hf:(bif isV x.1 s.z then f34 (s.zs,x.2) else .fail) = .ret r:=hf
  cases hv:isV x.1 s.z with
  | false=>rw [hv] at hf;cases hf
  | true =>
  rw [hv] at hf
  have hv:=isV_eq hv
  obtain ⟨v,rest,e1,⟨cs,e2,e3⟩,h2⟩:=hvs
  have e4:=e3.1
  subst e4
  have e2:v=x.1:=e2
  have hH:IE s w:=hH
  obtain ⟨T,hT⟩:=hH.r2
  have hrep:RepT (fun b o=>M b o/\ownB s.z≠some b) w (.prod (.list (.int .i64)) .unit) vs.toList (s.zs,x.2):=⟨v,rest,e1,by
    rw [e2,hv]
    exact ⟨[s.z],by rcases hT.2 with ⟨h,_⟩|⟨_,_,_,h,_⟩<;>(rw [h];rfl),row_data hT fun g hg o h=>h.2 hg⟩,h2⟩
  have hc:=c34 (s.zs,x.2) (fun b o=>M b o/\ownB s.z≠some b) w vs hI hrep fun b o h=>hlt b o h.1
  have hf:sp34.f (s.zs,x.2) = .ret r:=hf
  rw [hf] at hc
  refine hc.mono ?_
  rintro e w' ⟨v',rfl,hb,M',k1,k2,k3,k4⟩
  have hlb:∀ b,HE.hb s w b->b<w.heap.size:=fun b hb'=>HE.lt s M w b hH hb'
  refine ⟨v',rfl,Fr.below hb fun k hk=>hk.1,fun w1 hw1 hfr hs=>⟨HE.keep s M w M w1 hH (fun b o u e h=>?_) fun b hb'=>(hs b hb').trans (hb.block b (hlb b hb')),fun b h=>h⟩,?_⟩
  . by_cases hbb:HE.hb s w b
    . exact absurd (hM b hbb o) h
    . exact ⟨(World.cell?_of_block (a:=⟨b,o,none⟩) (hfr.block b ⟨cell_lt e,hbb⟩)).trans e,h⟩
  exact ⟨M,fun _ _ h=>h,fun _ _ h=>.inl h,k3,fun b h=>by simp [sp34r,mkRes,ownS] at h⟩
theorem put_self {a:Act} {d:Nat} {v:Value} (h:tm a d=v) (hd:d<a.tmps.size):a.put (some d) v=a:=by
  have e:a.tmps.setIfInBounds d v=a.tmps:=by
    apply Array.ext
    . simp
    . intro i h1 h2
      rw [Array.getElem_setIfInBounds]
      split
      . rename_i e;subst e
        rw [<- h];unfold tm;simp [h2]
      . rfl
  show { a with tmps:=_ }=a
  first|(rw [e])|(simp [Act.put,e])
theorem owns_und {st:St} {a:Act} {w:World} {d i:Nat} {k:Option Nat} {b:Nat} (h:owns (st.set d .und) a w i k b):owns st a w i k b:=by
  have hg:i≠d->get (st.set d .und) i=get st i:=fun hne=>get_setne hne
  cases k with
  | none =>
    by_cases e:i=d
    . subst e
      have h1:=h.1
      rcases Nat.lt_or_ge i st.length with hl|hl
      . rw [get_set st i i _ hl,if_pos rfl] at h1;cases h1
      . rw [get_oob (by rw [List.length_set];exact hl)] at h1;cases h1
    . exact ⟨by rw [<- hg e];exact h.1,h.2⟩
  | some k =>
    obtain ⟨cs,c0,c,v,h1,h2⟩:=h
    by_cases e:i=d
    . subst e
      rcases Nat.lt_or_ge i st.length with hl|hl
      . rw [get_set st i i _ hl,if_pos rfl] at h1;cases h1
      . rw [get_oob (by rw [List.length_set];exact hl)] at h1;cases h1
    . exact ⟨cs,c0,c,v,by rw [<- hg e];exact h1,h2⟩
section
variable {F : Nat → Prop} {M0 : Base} {w0 : World} {a : Act} {w : World} {st : St} {v z : Value} {xs zs : List Int}
theorem to_he {hot:Bool} (hl:10<st.length) (e10:get st 10 = .arr (.int .i64) zs hot) (hc:ConcH HD F M0 w0 (⟨v,xs⟩:HL) st a w):∃ z,ConcH HE F M0 w0 (⟨v,xs,z,zs⟩:HL2) ((st.set 10 .und).set 10 (.d .raw z)) a w:=by
  obtain ⟨hfr,M,hG⟩:=hc
  have s10:ArrAt M w (.int .i64) (tm a 10) zs:=by
    have:=hG.2.1.slot 10
    rw [e10] at this
    exact this
  obtain ⟨hg0,hfree⟩:=hG.2.1.forget e10
  have hM10:∀ b,ownB (tm a 10)=some b->∀ o,M b o:=fun b hb=>by
    rcases s10 with ⟨e,_⟩|⟨g,cap,cells,T,e,_,_,_,_,h,_⟩
    . rw [e] at hb;cases hb
    . rw [e] at hb;cases hb;exact h
  refine ⟨tm a 10,hfr,M,?_⟩
  have hcell:(tm a 10).cells = #[tm a 10]/\(tm a 10).oneCell'=true:=by
    rcases s10 with ⟨e,_⟩|⟨g,cap,cells,T,e,_⟩<;>(rw [e];exact ⟨rfl,rfl⟩)
  have hE:GoodH HE F M0 (⟨v,xs,tm a 10,zs⟩:HL2) M (st.set 10 .und) a w:=by
    refine ⟨⟨hG.1,arr_row s10,fun g hv hz=>(hG.2.2 g hv).2.2 10 none ⟨by rw [e10];rfl,hz⟩⟩,hg0,fun b hb=>?_⟩
    rcases hb with hb|hb
    . obtain ⟨h1,h2,h3⟩:=hG.2.2 b hb
      exact ⟨h1,h2,fun i k ho=>h3 i k (owns_und ho)⟩
    . exact ⟨(hfree b hb).1,hM10 b hb,fun i k=>(hfree b hb).2 i k⟩
  have:=good_put hE (d:=10) (by rw [get_set st 10 10 _ hl,if_pos rfl];rfl) (x:=.d .raw (tm a 10)) rfl (v:=tm a 10) ⟨[_],by
    rcases s10 with ⟨e,_⟩|⟨g,cap,cells,T,e,_⟩<;>(rw [e];rfl),rfl,hcell.1,hcell.2⟩
  rwa [put_self rfl (by rw [hG.2.1.size];exact hl)] at this
theorem of_he (hl:10<st.length) (e10:get st 10 = .d .raw z) (hc:ConcH HE F M0 w0 (⟨v,xs,z,zs⟩:HL2) st a w):ConcH HD F M0 w0 (⟨v,xs⟩:HL) (st.set 10 (.arr (.int .i64) zs true)) a w:=by
  obtain ⟨hfr,M,hG⟩:=hc
  have t10:tm a 10=z:=by
    have s1:=hG.2.1.slot 10
    rw [e10] at s1
    exact repV_raw (show RepV M w .raw (tm a 10) z from s1)
  have hI:IE ⟨v,xs,z,zs⟩ w:=hG.1
  obtain ⟨T,hT⟩:=hI.r2
  have harr:ArrAt M w (.int .i64) z zs:=by
    have hT2:(z = .slice none 0 0/\zs.length=0)\/∃ g cap cur,z = .slice (some ⟨g,0,none⟩) zs.length cap/\0<=g/\w.heap[g]? = some (.cells cur T (0,0))/\zs.length<=cap/\cap<=maxLen/\cur.size=cap * 1/\cur.toList.take (zs.length * 1)=rowV zs:=hT.2
    rcases hT2 with ⟨e,h0⟩|⟨g,cap,cur,e,_,hh,hle,hcm,hsz,ht⟩
    . exact .inl ⟨e,List.eq_nil_of_length_eq_zero h0⟩
    . refine .inr ⟨g,cap,cur,T,e,hh,hle,hcm,hsz,(hG.2.2 g (.inr (by rw [e];rfl))).2.1,fun i hi=>?_⟩
      have hi:i<List.length (α:=Int) zs:=hi
      show (cur.toList.drop (i * 1)).take 1=[.int .i64 (List.get (α:=Int) zs ⟨i,hi⟩)]
      rw [Nat.mul_one]
      have e2:(cur.toList.take (zs.length * 1))[i]? = (rowV zs)[i]? := by rw [ht]
      rw [List.getElem?_take,if_pos (by omega)] at e2
      have h1:cur.toList[i]? = some (.int .i64 (List.get (α:=Int) zs ⟨i,hi⟩)):=by
        rw [e2];unfold rowV;rw [List.getElem?_map,List.getElem?_eq_getElem hi];rfl
      obtain ⟨hi',e3⟩:=List.getElem?_eq_some_iff.1 h1
      rw [List.drop_eq_getElem_cons hi',List.take_succ_cons,List.take_zero,e3]
  have hp:=hG.2.1.put_arr (d:=10) (t:=.int .i64) (xs:=zs) (v:=z) hl (fun cs h=>by rw [e10] at h;cases h) harr fun b hb=>by
    obtain ⟨h1,_,h3⟩:=hG.2.2 b (.inr hb)
    exact ⟨h1,fun j l=>h3 j l⟩
  rw [put_self t10 (by rw [hG.2.1.size];exact hl)] at hp
  refine ⟨hfr,M,hI.r1,hp,fun b hb=>?_⟩
  obtain ⟨h1,h2,h3⟩:=hG.2.2 b (.inl hb)
  refine ⟨h1,h2,fun i k ho=>?_⟩
  by_cases e:i=10
  . subst e
    cases k with
    | none =>
      have h4:ownB (tm a 10)=some b:=ho.2
      rw [t10] at h4
      exact hI.ne b hb h4
    | some k =>
      obtain ⟨cs,_,_,_,h4,_⟩:=ho
      rw [get_set st 10 10 _ hl,if_pos rfl] at h4
      cases h4
  . have hg:get (st.set 10 (.arr (.int .i64) zs true)) i=get st i:=get_setne e
    cases k with
    | none=>exact h3 i none ⟨by rw [<- hg];exact ho.1,ho.2⟩
    | some k =>
      obtain ⟨cs,c0,c,u,h4,h5⟩:=ho
      exact h3 i (some k) ⟨cs,c0,c,u,by rw [<- hg];exact h4,h5⟩
end
end Go.V
namespace Go.V
open Go.Proofs
open Go.RowKit (Below)
noncomputable def specs20 (s:HL2):List Spec:=[sp34r s]
noncomputable def st20 (k0:Int) (ps:List Int) (tot:Int) (zs:List Int) (v z:Value):St:=((st10B k0 ps tot zs v).set 10 .und).set 10 (.d .raw z)
noncomputable def st20e (k0:Int) (ps:List Int) (tot:Int) (zs:List Int) (v z:Value) (r:Int):St:=(((((st20 k0 ps tot zs v z).set 70 (.d (.int .i64) k0)).set 71 (.d .raw z)).set 72 (.d (.int .i64) r)).set 73 (.d (.int .i64) (IntKind.i64.wrap (k0 - r)))).set 74 (.d (.int .i64) (0:Int))
section
variable (k0 tot : Int) (ps zs : List Int) (v : Value) (s : HL2) (k : X → HE.σ → St → Out Unit)
theorem e10_20:regAnyQ Tryz.prog HE (fun s=>phi (specs20 s)) [] 5 none 20 r10_20 k s (st20 k0 ps tot zs v s.z) =
    match f34r s (s.z,()) with
    | .ret r=>k .normal s (st20e k0 ps tot zs v s.z r)
    | .pan _=>.fail
    | .fail=>.fail:=by kernel_rfl
end
section
variable {n : Nat} {Q : Exit → Act → World → Prop} {F : Nat → Prop} {M0 : Base} {w0 : World} {a : Act} {w : World} {k0 tot : Int} {ps zs : List Int} {v : Value} {xs : List Int}
set_option maxRecDepth 4000 in
theorem r20_wp (hI:∀ w,Fr F w0 w->Inv.I Tryz.prog w) (hpl:∀ j v,M0.pin j=some v->False) {r:Int} (h34:f34 (zs,()) = .ret r) (hc:ConcH HD F M0 w0 (⟨v,xs⟩:HL) (st10B k0 ps tot zs v) a w) (hQ:∀ a' w',ConcH HD F M0 w0 (⟨v,xs⟩:HL) (st10M k0 ps tot zs v (IntKind.i64.wrap (k0 - r)) 0) a' w'->Q .normal a' w'):(Code.region 20 r10_20 true).wpIn (fen none) n Tryz.prog Q a w:=by
  obtain ⟨z,hcE⟩:=to_he (by show 10<90;omega) (by rfl) hc
  obtain ⟨s,hs⟩:∃ s:HL2,s=⟨v,xs,z,zs⟩:=⟨_,rfl⟩
  have hz:s.z=z:=by rw [hs]
  have hr:f34r s (s.z,()) = .ret r:=by
    unfold f34r
    rw [isV_refl]
    rw [hs]
    exact h34
  have he:regAnyQ Tryz.prog HE (fun s=>phi (specs20 s)) [] 5 none 20 r10_20 (fun x s1 st1=>match x with | .normal=>bif same s1 s && same st1 (st20e k0 ps tot zs v s.z r) then (Out.ret ():Out Unit) else .fail|_=>.fail) s (st20 k0 ps tot zs v s.z) = .ret ():=by
    rw [e10_20,hr]
    simp only [same_refl,Bool.and_true]
    erw [same_refl]
    rfl
  rw [<- hs] at hcE
  rw [<- hz] at hcE
  refine regAnyQ_ok mixed (H:=HE) (Ψ:=fun s=>phi (specs20 s)) (fun s g sp hsp=>?_) [] (m:=5) (last:=none) (id:=20) (ops:=r10_20) (fun g h=>by cases h) (fin:=.ret ()) (by simp) (by simp) F M0 w0 n hI hpl _ Q (fun x s1 st1 a' w' hc' hx=>?_) s _ a w hcE he
  . have hm:sp∈specs20 s:=(List.mem_filter.1 hsp).1
    simp only [specs20,List.mem_cons,List.not_mem_nil,or_false] at hm
    subst hm
    exact .inr ⟨rfl,c34r s⟩
  . split at hx
    rotate_left
    . cases hx
    cases h1:(same s1 s && same st1 (st20e k0 ps tot zs v s.z r)) with
    | false=>rw [h1] at hx;cases hx
    | true =>
    rw [Bool.and_eq_true] at h1
    have e1:=same_eq h1.1
    have e2:=same_eq h1.2
    subst e1 e2
    subst hs
    have hb:=of_he (by show 10<90;omega) (by rfl) hc'
    exact hQ a' w' (conc_mask hb hpl rfl (mask_keep [3,6,9,10,11,73,74] (by rfl) (fun k hk=>by
      simp only [List.mem_cons,List.not_mem_nil,or_false] at hk
      rcases hk with rfl|rfl|rfl|rfl|rfl|rfl|rfl<;>rfl)))
end
end Go.V
namespace Go.V
open Go.Proofs
open Go.RowKit (Below)
noncomputable def lb10b:Code:=.seq (.region 21 r10_21 false) (.seq (.cond (.tmp 75) .skip (.exit 4)) (.seq (.block 5 (.seq (.region 22 r10_22 false) (.seq (.region 23 r10_23 false) (.region 24 r10_24 false)))) (.region 25 r10_25 false)))
noncomputable def giveP (k0 tot:Int) (ps:List Int) (m:Int):Nat->Int->List Int->List Int->Out (List Int)
  | 0,_,_,_=>.fail
  | q+1,t,zs,xs=>match decide (t<m) with
    | false=>.ret zs
    | true=>match f35a (xs,(((),(k0,(ps,(tot,())))),())) with
      | .ret j=>bif (inb j zs.length && decide (j.toNat<zs.length)) && (decide (xs.length<1000000000) && !xs.isEmpty) then giveP k0 tot ps m q (IntKind.i64.wrap (t+1)) (List.set zs j.toNat (IntKind.i64.wrap (List.getD zs j.toNat (0:Int)+1))) (strike xs j) else .fail
      | _=>.fail
noncomputable def shareP (nn k0 tot:Int) (ps zs:List Int):Out (List Int):=match quotP k0 tot ps nn fuel 0 zs [] with
  | .ret z=>match f34 (z.1,()) with
    | .ret r=>giveP k0 tot ps (IntKind.i64.wrap (k0 - r)) fuel 0 z.1 z.2
    | _=>.fail
  | _=>.fail
noncomputable def shareX (x:Int×Int×Int×List Int×List Int×Unit):Out (List Int):=shareP x.1 x.2.1 x.2.2.1 x.2.2.2.1 x.2.2.2.2.1
noncomputable def tail10:Code:=.seq (.region 13 r10_13 false) (.seq (.seq (.region 14 r10_14 false) (.block 2 (.loop lb10a))) (.seq (.seq (.region 20 r10_20 true) (.block 4 (.loop lb10b))) (.seq (.region 26 r10_26 false) .ret)))
def tail10S (r:List Int):St:=((List.replicate 90 S.und).set 4 (.d (.list (.int .i64)) r)).set 5 (.d (.int .i64) (0:Int))
section
variable {n : Nat} {Q : Exit → Act → World → Prop} {F : Nat → Prop} {M0 : Base} {w0 : World} {k0 tot m : Int} {ps : List Int}
set_option maxRecDepth 4000 in
theorem loop10b (hI:∀ w,Fr F w0 w->Inv.I Tryz.prog w) (hpl:∀ j v,M0.pin j=some v->False) {z:List Int} (hQ:∀ v xs t a w,ConcH HD F M0 w0 (⟨v,xs⟩:HL) (st10M k0 ps tot z v m t) a w->Q (.exit 4) a w) :
    ∀ (q:Nat) (t:Int) (zs xs:List Int) (v:Value) (a:Act) (w:World),giveP k0 tot ps m q t zs xs = .ret z->ConcH HD F M0 w0 (⟨v,xs⟩:HL) (st10M k0 ps tot zs v m t) a w->Code.roundsIn (fen none) n Tryz.prog lb10b Q q a w:=by
  intro q
  induction q with
  | zero=>intro t zs xs v a w h;cases h
  | succ q ih =>
    intro t zs xs v a w h hc
    unfold giveP at h
    rw [roundsIn_succ]
    show Code.wpIn (fen none) n Tryz.prog (.seq (.region 21 r10_21 false) (.seq (.cond (.tmp 75) .skip (.exit 4)) (.seq (.block 5 (.seq (.region 22 r10_22 false) (.seq (.region 23 r10_23 false) (.region 24 r10_24 false)))) (.region 25 r10_25 false)))) _ a w
    refine wpIn_seq (vstepH (l:=[]) all_nil [] Ue10_21 (st':=st10D k0 ps tot zs v m t) (fun k=>e10_21 k0 tot m t ps zs v _ k) hI hpl hc fun a1 w1 hc1=>?_)
    have hb:tm a1 75 = .bool (decide (t<m)):=boolHD hc1 rfl
    have hc2:ConcH HD F M0 w0 (⟨v,xs⟩:HL) (st10M k0 ps tot zs v m t) a1 w1:=conc_mask hc1 hpl rfl (mask_keep [3,6,9,10,11,73,74] (by rfl) (fun k hk=>by
      simp only [List.mem_cons,List.not_mem_nil,or_false] at hk
      rcases hk with rfl|rfl|rfl|rfl|rfl|rfl|rfl<;>rfl))
    refine wpIn_seq ?_
    cases hd:decide (t<m) with
    | false =>
      rw [hd] at h hb
      cases h
      refine wpIn_cond (t:=false) hb ?_
      simp only [Bool.false_eq_true,if_false]
      exact wpIn_exit (hQ v xs t a1 w1 hc2)
    | true =>
      rw [hd] at h hb
      dsimp only at h
      cases hf:f35a (xs,(((),(k0,(ps,(tot,())))),())) with
      | fail=>rw [hf] at h;cases h
      | pan p=>rw [hf] at h;cases h
      | ret j =>
      rw [hf] at h
      dsimp only at h
      obtain ⟨hcd,h⟩:=bif_of h
      simp only [Bool.and_eq_true,Bool.not_eq_true',decide_eq_true_eq] at hcd
      obtain ⟨⟨g1,g2⟩,g3,g4⟩:=hcd
      have hne:xs≠[]:=fun e=>by rw [e] at g4;cases g4
      refine wpIn_cond (t:=true) hb ?_
      simp only [if_true]
      refine wpIn_skip (wpIn_seq (wpIn_block ?_))
      refine wpIn_seq (r22_wp hI hf hc2 fun a3 w3 hc3=>?_)
      refine wpIn_seq (vstepH (l:=[]) all_nil [] Ue10_23 (st':=st10J k0 ps tot (List.set zs j.toNat (IntKind.i64.wrap (List.getD zs j.toNat (0:Int)+1))) v m t j) (fun k=>(e10_23 k0 tot m t j ps zs v _ k).trans (by rw [g1,decide_eq_true g2];rfl)) hI hpl hc3 fun a4 w4 hc4=>?_)
      refine r24_wp hpl hne g3 hc4 fun v' a5 w5 hc5=>?_
      refine vstepH (l:=[]) all_nil [] Ue10_25 (st':=st10M k0 ps tot _ v' m (IntKind.i64.wrap (t+1))) (fun k=>e10_25 k0 tot m t ps _ v' _ k) hI hpl hc5 fun a6 w6 hc6=>ih _ _ _ _ _ _ h hc6
end
section
variable {n : Nat} {Q : Exit → Act → World → Prop} {F : Nat → Prop} {M0 : Base} {w0 : World} {a : Act} {w : World} {k0 tot m t : Int} {ps zs : List Int} {v : Value} {xs : List Int}
theorem r26_wp (hpl:∀ j v,M0.pin j=some v->False) (hc:ConcH HD F M0 w0 (⟨v,xs⟩:HL) (st10M k0 ps tot zs v m t) a w) (hQ:∀ a' w',ConcH H0 F M0 w0 () (tail10S zs) a' w'->Q .ret a' w'):(Code.seq (.region 26 r10_26 false) .ret).wpIn (fen none) n Tryz.prog Q a w:=by
  have hsz:=sizeHD hc (N:=90) rfl
  obtain ⟨hfr,M,hG⟩:=hc
  have s10:ArrAt M w (.int .i64) (tm a 10) zs:=hG.2.1.slot 10
  obtain ⟨z10,hz10⟩:∃ z,z=tm a 10:=⟨_,rfl⟩
  rw [<- hz10] at s10
  have t10:tm a 10=z10:=hz10.symm
  have hF:∀ g,ownB z10=some g->¬ F g:=fun g hg=>hG.2.1.new 10 none g ⟨rfl,by rw [t10];exact hg⟩
  refine wpIn_seq ?_
  refine wpIn_region ?_
  rw [show r10_26.size=3 by kernel_rfl]
  show wpOpsIn (fen none) n Tryz.prog r10_26 _ [0,1,2] a w
  obtain ⟨o0,i0,d0,p0,q0⟩:=infoAt info10_26 (i:=0) rfl
  simp only at d0 p0 q0
  rw [wpOpsIn_cons]
  refine opr_value i0 (wanted_none q0) (fun c h=>by rw [p0] at h;cases h) (ex_move p0) ?_
  rw [d0,t10]
  obtain ⟨a1,ha1⟩:∃ zz:Act,zz=Act.put a (some 89) (z10):=⟨_,rfl⟩
  rw [<- ha1]
  have z1:a1.tmps.size=90:=by rw [ha1,size_put];exact hsz
  have t1_89:tm a1 89=z10:=by rw [ha1];exact tm_put_same (by omega)
  obtain ⟨o1,i1,d1,p1,q1⟩:=infoAt info10_26 (i:=1) rfl
  simp only at d1 p1 q1
  rw [wpOpsIn_cons]
  refine opr_value i1 (wanted_none q1) (fun c h=>by rw [p1] at h;cases h) (ex_assign p1) ?_
  rw [d1,t1_89]
  obtain ⟨a2,ha2⟩:∃ zz:Act,zz=Act.put a1 (some 4) (z10):=⟨_,rfl⟩
  rw [<- ha2]
  have z2:a2.tmps.size=90:=by rw [ha2,size_put];exact z1
  obtain ⟨o2,i2,d2,p2,q2⟩:=infoAt info10_26 (i:=2) rfl
  simp only at d2 p2 q2
  rw [wpOpsIn_cons]
  refine opr_value i2 (wanted_none q2) (fun c h=>by rw [p2] at h;cases h) (ex_assignK p2) ?_
  rw [d2]
  obtain ⟨a3,ha3⟩:∃ zz:Act,zz=Act.put a2 (some 5) (.int .i64 0):=⟨_,rfl⟩
  rw [<- ha3]
  have z3:a3.tmps.size=90:=by rw [ha3,size_put];exact z2
  have t2_4:tm a2 4=z10:=by rw [ha2];exact tm_put_same (by omega)
  have t3_4:tm a3 4=z10:=by rw [ha3,tm_put_other (by omega)];exact t2_4
  have t3_5:tm a3 5 = .int .i64 0:=by rw [ha3];exact tm_put_same (by omega)
  refine wpIn_ret (hQ _ w ?_)
  obtain ⟨T,hrow⟩:=arr_row s10
  have hFg:∀ b,F b->ownB z10≠some b:=fun b hb e=>hF b e hb
  have g4:get (tail10S zs) 4 = .d (.list (.int .i64)) zs:=rfl
  have g5:get (tail10S zs) 5 = .d (.int .i64) (0:Int):=rfl
  have gu:∀ i,i≠4->i≠5->get (tail10S zs) i = .und:=fun i h1 h2=>by
    unfold tail10S
    rw [get_setne h2,get_setne h1,get_repl]
  have hno:∀ i k b,¬ owns (tail10S zs) a3 w i k b:=fun i k b ho=>by
    have key:ownS (get (tail10S zs) i)=false:=by
      by_cases e6:i=4
      . subst e6;rfl
      . by_cases e7:i=5
        . subst e7;rfl
        . rw [gu i e6 e7];rfl
    cases k with
    | none=>rw [ho.1] at key;cases key
    | some k=>obtain ⟨cs,_,_,_,e,_⟩:=ho;rw [e] at key;cases key
  have hdf:a3.defers=a.defers:=by rw [ha3,ha2,ha1];simp only [defers_put]
  have hg:=hG.2.1
  refine ⟨hfr,fun b o=>M b o/\ownB z10≠some b,trivial,?_,fun b h=>h.elim⟩
  refine ⟨by rw [hdf];exact hg.defers,by rw [z3];rfl,hg.room,hg.base,fun b o h=>⟨hg.up b o h,hFg b (hg.base b o h)⟩,fun b o h=>hg.lt b o h.1,fun b o hF h=>hg.down b o hF h.1,
    fun i=>?_,fun i k j l b h=>absurd h (hno i k b),fun i k b h=>absurd h (hno i k b),fun b o u h1 h2=>?_,fun j v hj=>(hpl j v hj).elim,hg.dm⟩
  . by_cases e6:i=4
    . subst e6
      rw [g4,t3_4]
      exact ⟨[z10],by rcases hrow.2 with ⟨h,_⟩|⟨_,_,_,h,_⟩<;>(rw [h];rfl),row_data hrow fun g hg o h=>h.2 hg⟩
    . by_cases e7:i=5
      . subst e7;rw [g5,t3_5];exact ⟨_,rfl,rfl⟩
      . rw [gu i e6 e7];trivial
  . obtain ⟨k1,k2⟩:=hg.keep b o u h1 h2
    exact ⟨k1,fun h=>k2 h.1⟩
end
section
variable {n : Nat} {Q : Exit → Act → World → Prop} {F : Nat → Prop} {M0 : Base} {w0 : World} {a : Act} {w : World} {nn b1 b2 b3 b4 b5 k0 tot : Int} {b6 : ENTS.den} {ps zs : List Int} {st : St}
set_option maxRecDepth 4000 in
theorem start10 (hpl:∀ j v,M0.pin j=some v->False) {hot:Bool} (hlen:st.length=90) (e2:get st 2 = .box [.d (.int .i64) nn,.d (.int .i64) b1,.d (.int .i64) b2,.d (.int .i64) b3,.d (.int .i64) b4,.d (.int .i64) b5,.d ENTS b6]) (e3:get st 3 = .ref (.int .i64) k0) (e6:get st 6 = .ref (.list (.int .i64)) ps) (e9:get st 9 = .ref (.int .i64) tot) (e10:get st 10 = .arr (.int .i64) zs hot)
    (hc:ConcH H0 F M0 w0 () st a w) (hQ:∀ a',ConcH HD F M0 w0 (⟨.slice none 0 0,[]⟩:HL) (st10A nn b1 b2 b3 b4 b5 b6 k0 ps tot zs (.slice none 0 0)) a' w->Q .normal a' w):(Code.region 13 r10_13 false).wpIn (fen none) n Tryz.prog Q a w:=by
  obtain ⟨hfr,M,hG⟩:=hc
  have hsz:a.tmps.size=90:=hG.2.1.size.trans hlen
  have hn:w.ownsRow 0 3 1 (.slice none 0 0) 0 []:=⟨rfl,.inl ⟨rfl,rfl⟩⟩
  have hc1:ConcH HD F M0 w0 (⟨.slice none 0 0,[]⟩:HL) st a w:=⟨hfr,M,hn,hG.2.1,fun b hb=>by cases (show ownB (.slice none 0 0)=some b from hb)⟩
  have hc2:ConcH HD F M0 w0 (⟨.slice none 0 0,[]⟩:HL) ((st10A nn b1 b2 b3 b4 b5 b6 k0 ps tot zs (.slice none 0 0)).set 11 .und) a w:=conc_mask hc1 hpl (by rw [hlen];rfl) (mask_keep [2,3,6,9,10] (by rfl) (fun k hk=>by
    simp only [List.mem_cons,List.not_mem_nil,or_false] at hk
    rcases hk with rfl|rfl|rfl|rfl|rfl
    . rw [e2];rfl
    . rw [e3];rfl
    . rw [e6];rfl
    . rw [e9];rfl
    . rw [e10];rfl))
  obtain ⟨hfr2,M2,hG2⟩:=hc2
  refine wpIn_region ?_
  rw [show r10_13.size=1 by kernel_rfl]
  show wpOpsIn (fen none) n Tryz.prog r10_13 _ [0] a w
  obtain ⟨os0,is0,ds0,ps0,qs0⟩:=infoAt info10_13 (i:=0) rfl
  simp only at ds0 ps0 qs0
  rw [wpOpsIn_cons]
  refine opr_value is0 (wanted_none qs0) (fun c h=>by rw [ps0] at h;cases h) (ex_assignK ps0) ?_
  rw [ds0]
  obtain ⟨as1,has1⟩:∃ zz:Act,zz=Act.put a (some 11) (.slice none 0 0):=⟨_,rfl⟩
  rw [<- has1]
  have zs1:as1.tmps.size=90:=by rw [has1,size_put];exact hsz
  refine hQ _ ⟨hfr2,M2,?_⟩
  rw [has1]
  exact good_put hG2 (d:=11) (by rfl) (x:=.d .raw (.slice none 0 0)) rfl (v:=.slice none 0 0) ⟨[_],rfl,rfl,rfl,rfl⟩
set_option maxRecDepth 4000 in
theorem tail10_wp (hI:∀ w,Fr F w0 w->Inv.I Tryz.prog w) (hpl:∀ j v,M0.pin j=some v->False) {hot:Bool} {r:List Int} (hs:shareP nn k0 tot ps zs = .ret r) (hlen:st.length=90) (e2:get st 2 = .box [.d (.int .i64) nn,.d (.int .i64) b1,.d (.int .i64) b2,.d (.int .i64) b3,.d (.int .i64) b4,.d (.int .i64) b5,.d ENTS b6]) (e3:get st 3 = .ref (.int .i64) k0) (e6:get st 6 = .ref (.list (.int .i64)) ps) (e9:get st 9 = .ref (.int .i64) tot) (e10:get st 10 = .arr (.int .i64) zs hot)
    (hc:ConcH H0 F M0 w0 () st a w) (hQ:∀ a' w',ConcH H0 F M0 w0 () (tail10S r) a' w'->Q .ret a' w'):tail10.wpIn (fen none) n Tryz.prog Q a w:=by
  unfold shareP at hs
  cases h1:quotP k0 tot ps nn fuel 0 zs [] with
  | fail=>rw [h1] at hs;cases hs
  | pan p=>rw [h1] at hs;cases hs
  | ret z =>
  rw [h1] at hs
  dsimp only at hs
  cases h2:f34 (z.1,()) with
  | fail=>rw [h2] at hs;cases hs
  | pan p=>rw [h2] at hs;cases hs
  | ret q =>
  rw [h2] at hs
  dsimp only at hs
  refine wpIn_seq (start10 hpl hlen e2 e3 e6 e9 e10 hc fun a1 hc1=>?_)
  refine wpIn_seq (wpIn_seq (vstepH (l:=[]) all_nil [] Ue10_14 (st':=st10L k0 ps tot zs (.slice none 0 0) nn 0) (fun k=>e10_14 nn k0 tot b1 b2 b3 b4 b5 b6 ps zs _ _ k) hI hpl hc1 fun a2 w2 hc2=>?_))
  refine wpIn_block (wpIn_loop_rounds fuel (loop10a hI hpl (z:=z) (fun v i a3 w3 hc3=>?_) fuel 0 zs [] _ a2 w2 h1 hc2))
  have hc4:ConcH HD F M0 w0 (⟨v,z.2⟩:HL) (st10B k0 ps tot z.1 v) a3 w3:=conc_mask hc3 hpl rfl (mask_keep [3,6,9,10,11] (by rfl) (fun k hk=>by
    simp only [List.mem_cons,List.not_mem_nil,or_false] at hk
    rcases hk with rfl|rfl|rfl|rfl|rfl<;>rfl))
  refine wpIn_seq (wpIn_seq (r20_wp hI hpl h2 hc4 fun a5 w5 hc5=>?_))
  refine wpIn_block (wpIn_loop_rounds fuel (loop10b hI hpl (z:=r) (fun v' xs' t' a6 w6 hc6=>?_) fuel 0 z.1 z.2 _ a5 w5 hs hc5))
  exact r26_wp hpl hc6 hQ
end
noncomputable def E10 {ρ:Type} (k:X->H0.σ->St->Out ρ) (s:H0.σ) (st:St):Out ρ :=
  match get st 2,get st 3,get st 6,get st 9,get st 10 with
  | .box [.d (.int .i64) nn,.d (.int .i64) _,.d (.int .i64) _,.d (.int .i64) _,.d (.int .i64) _,.d (.int .i64) _,.d (.list (.prod (.int .i64) (.prod (.int .i64) (.prod (.prod (.int .i64) (.prod (.int .i64) .unit)) (.prod (.int .i64) (.prod (.int .i64) (.prod (.prod (.int .i64) (.prod (.int .i64) (.prod (.int .i64) (.prod (.int .i64) .unit)))) .unit))))))) _],.ref (.int .i64) k0,.ref (.list (.int .i64)) ps,.ref (.int .i64) tot,.arr (.int .i64) zs _=>bif st.length==90 then (match shareX (nn,(k0,(tot,(ps,(zs,()))))) with
    | .ret r=>k .ret s (tail10S r)
    | _=>.fail) else .fail
  | _,_,_,_,_=>.fail
theorem E10_ok:EOKZ Tryz.prog H0 tail10 (fun {ρ} k s st=>E10 k s st):=by
  intro ρ fin hf hr F M0 w0 n hz hI hpl k Q hQ s st a w hc h
  have h:E10 k s st=fin:=h
  unfold E10 at h
  split at h
  rotate_left
  . exact absurd h.symm hf
  rename_i nn b1 b2 b3 b4 b5 b6 k0 ps tot zs hot e2 e3 e6 e9 e10
  cases hcd:(st.length==90) with
  | false=>rw [hcd] at h;exact absurd h.symm hf
  | true =>
  rw [hcd] at h
  simp only [beq_iff_eq] at hcd
  simp only [cond_true] at h
  cases hs:shareX (nn,(k0,(tot,(ps,(zs,()))))) with
  | fail=>rw [hs] at h;exact absurd h.symm hf
  | pan p=>rw [hs] at h;exact absurd h.symm hf
  | ret r =>
  rw [hs] at h
  exact tail10_wp hI hpl hs hcd e2 e3 e6 e9 e10 hc fun a' w' hc'=>hQ .ret s _ a' w' hc' h
end Go.V
namespace Go.V
open Go.Proofs
noncomputable def specs10:List Spec:=[sp32,sp33,sp34]
def hints10:List (Nat×List Nat):=[(5,[2,3,6,26,27,28]),(15,[3,6,9,10,11,50,51]),(21,[3,6,9,10,11,73,74]),(3000009,[6]),(4000012,[3,3,6,29,9,3])]
noncomputable def specsQ10 (s:Unit):List Spec:=[sp32,sp33,sp34]
noncomputable def r10_6:Array Oper:=regAt 6 (bodyOf Tryz.f10)
noncomputable def D10_6:Nat->Option (Nat×(Unit->St->Bool×Outs H0)):=fun _=>none
theorem D10_6_ok:∀ i y,D10_6 i=some y->HandQ Tryz.prog H0 r10_6 i y.1 y.2:=fun _ _ h=>by cases h
noncomputable def T10:List (List Nat×HdH H0):=[([1,1,1,0,1,0,0,1,1,0,0,0],⟨fun {ρ} k s st=>regQ Tryz.prog H0 (fun s=>phi (specsQ10 s)) hints10 D10_6 6 r10_6 k s st⟩),
  ([1,1,1,1,1,1,1],⟨fun {ρ} k s st=>E10 k s st⟩)]
theorem allQ10 (h:∀ s,∀ sp∈specsQ10 s,CallH Tryz.prog H0 s sp):AllZ Tryz.prog H0 (bodyOf Tryz.f10) (T10):=(allZ_consH (c' := .region 6 r10_6 false) (by kernel_rfl) (regQ_ok (fun s g sp hs=>h s sp (List.mem_filter.1 hs).1) hints10 D10_6_ok) (allZ_cons (c':=tail10) (by kernel_rfl) E10_ok allZ_nil))
noncomputable def L10_0 (N:Nat) (n_L10_0:Nat) (x:((Int×(Int×(Int×(Int×(Int×(Int×((List (Int×(Int×((Int×(Int×Unit))×(Int×(Int×((Int×(Int×(Int×(Int×Unit))))×Unit)))))))×Unit)))))))×(Int×Unit))) (b_5:Int) (b_6:Int) (b_7:Int) (b_8:Int) (b_9:Int) (b_10:Int) (b_11:(List (Int×(Int×((Int×(Int×Unit))×(Int×(Int×((Int×(Int×(Int×(Int×Unit))))×Unit)))))))) (prize_12:Int) (own_13:(List Int)) (t28_14:Int):Out (Unit×((List Int)×(Int×Unit))) :=
  vloopQ Tryz.prog H0 (phi specs10) hints10 N (T10) Tryz.f10 true false (.prod (.list (.int .i64)) (.prod (.int .i64) .unit)) [1,1,1,0,1,0] n_L10_0 (()) [.und,.und,.box [.d (.int .i64) b_5,.d (.int .i64) b_6,.d (.int .i64) b_7,.d (.int .i64) b_8,.d (.int .i64) b_9,.d (.int .i64) b_10,.d (.list (.prod (.int .i64) (.prod (.int .i64) (.prod (.prod (.int .i64) (.prod (.int .i64) .unit)) (.prod (.int .i64) (.prod (.int .i64) (.prod (.prod (.int .i64) (.prod (.int .i64) (.prod (.int .i64) (.prod (.int .i64) .unit)))) .unit))))))) b_11],.box [.d (.int .i64) prize_12],.und,.und,.box [.arr (.int .i64) own_13 false],.und,.und,.und,.und,.und,.und,.und,.und,.und,.und,.und,.und,.und,.und,.und,.und,.und,.und,.und,.d (.list (.prod (.int .i64) (.prod (.int .i64) (.prod (.prod (.int .i64) (.prod (.int .i64) .unit)) (.prod (.int .i64) (.prod (.int .i64) (.prod (.prod (.int .i64) (.prod (.int .i64) (.prod (.int .i64) (.prod (.int .i64) .unit)))) .unit))))))) x.1.2.2.2.2.2.2.1,.d (.int .i64) (lenI x.1.2.2.2.2.2.2.1),.d (.int .i64) t28_14,.und,.und,.und,.und,.und,.und,.und,.und,.und,.und,.und,.und,.und,.und,.und,.und,.und,.und,.und,.und,.und,.und,.und,.und,.und,.und,.und,.und,.und,.und,.und,.und,.und,.und,.und,.und,.und,.und,.und,.und,.und,.und,.und,.und,.und,.und,.und,.und,.und,.und,.und,.und,.und,.und,.und,.und,.und,.und,.und,.und,.und]
theorem L10_0_succ (N:Nat) (n_L10_0:Nat) (x:((Int×(Int×(Int×(Int×(Int×(Int×((List (Int×(Int×((Int×(Int×Unit))×(Int×(Int×((Int×(Int×(Int×(Int×Unit))))×Unit)))))))×Unit)))))))×(Int×Unit))) (b_5:Int) (b_6:Int) (b_7:Int) (b_8:Int) (b_9:Int) (b_10:Int) (b_11:(List (Int×(Int×((Int×(Int×Unit))×(Int×(Int×((Int×(Int×(Int×(Int×Unit))))×Unit)))))))) (prize_12:Int) (own_13:(List Int)) (t28_14:Int):L10_0 N  (n_L10_0+1) x b_5 b_6 b_7 b_8 b_9 b_10 b_11 prize_12 own_13 t28_14 =
    (
    match (decide (t28_14<(lenI x.1.2.2.2.2.2.2.1))) with
    | true =>
      bif (inb t28_14 x.1.2.2.2.2.2.2.1.length) then
        bif (inb ((List.getD x.1.2.2.2.2.2.2.1 t28_14.toNat ((0:Int),((0:Int),(((0:Int),((0:Int),())),((0:Int),((0:Int),(((0:Int),((0:Int),((0:Int),((0:Int),())))),())))))))).1 own_13.length) then
          bif (decide ((((List.getD x.1.2.2.2.2.2.2.1 t28_14.toNat ((0:Int),((0:Int),(((0:Int),((0:Int),())),((0:Int),((0:Int),(((0:Int),((0:Int),((0:Int),((0:Int),())))),())))))))).1.toNat)<own_13.length)) then
            bif (inb ((List.getD x.1.2.2.2.2.2.2.1 t28_14.toNat ((0:Int),((0:Int),(((0:Int),((0:Int),())),((0:Int),((0:Int),(((0:Int),((0:Int),((0:Int),((0:Int),())))),())))))))).1 own_13.length) then
              bif (decide ((((List.getD x.1.2.2.2.2.2.2.1 t28_14.toNat ((0:Int),((0:Int),(((0:Int),((0:Int),())),((0:Int),((0:Int),(((0:Int),((0:Int),((0:Int),((0:Int),())))),())))))))).1.toNat)<own_13.length)) then
                L10_0 N n_L10_0 x b_5 b_6 b_7 b_8 b_9 b_10 b_11 prize_12 (List.set own_13 (((List.getD x.1.2.2.2.2.2.2.1 t28_14.toNat ((0:Int),((0:Int),(((0:Int),((0:Int),())),((0:Int),((0:Int),(((0:Int),((0:Int),((0:Int),((0:Int),())))),())))))))).1.toNat) (IntKind.i64.wrap ((List.getD own_13 (((List.getD x.1.2.2.2.2.2.2.1 t28_14.toNat ((0:Int),((0:Int),(((0:Int),((0:Int),())),((0:Int),((0:Int),(((0:Int),((0:Int),((0:Int),((0:Int),())))),())))))))).1.toNat) (0:Int))+((List.getD x.1.2.2.2.2.2.2.1 t28_14.toNat ((0:Int),((0:Int),(((0:Int),((0:Int),())),((0:Int),((0:Int),(((0:Int),((0:Int),((0:Int),((0:Int),())))),())))))))).2.1))) (IntKind.i64.wrap (t28_14+(1:Int)))
              else .fail
            else .fail
          else .fail
        else .fail
      else .fail
    | false =>
      match f34 (own_13,()) with
      | .ret r_15 =>
        match (r_15==(0:Int)) with
        | true =>
          .ret ((()),(([]:List Int),((5:Int),())))
        | false =>
          bif (mayMake b_5) then
            match shareX (b_5,(prize_12,(r_15,(own_13,((zeros (.int .i64) b_5:List Int),()))))) with
            | .ret r_17 =>
              .ret ((()),(r_17,((0:Int),())))
            | _=>.fail
          else .fail
      | .pan p_16 =>
        .pan p_16
      | .fail=>.fail:Out (Unit×((List Int)×(Int×Unit)))):=by
  kernel_rfl
noncomputable def F10 (N:Nat) (x:((Int×(Int×(Int×(Int×(Int×(Int×((List (Int×(Int×((Int×(Int×Unit))×(Int×(Int×((Int×(Int×(Int×(Int×Unit))))×Unit)))))))×Unit)))))))×(Int×Unit))):Out (Unit×((List Int)×(Int×Unit))) :=
  match f32 (x.1,()) with
  | .ret r_1 =>
    match (!r_1) with
    | true =>
      .ret ((()),(([]:List Int),((2:Int),())))
    | false =>
      match f33 (x.2.1,()) with
      | .ret r_3 =>
        match (!r_3) with
        | true =>
          .ret ((()),(([]:List Int),((2:Int),())))
        | false =>
          bif (mayMake x.1.1) then
            L10_0 N N x x.1.1 x.1.2.1 x.1.2.2.1 x.1.2.2.2.1 x.1.2.2.2.2.1 x.1.2.2.2.2.2.1 x.1.2.2.2.2.2.2.1 x.2.1 (zeros (.int .i64) x.1.1:List Int) (0:Int)
          else .fail
      | .pan p_4 =>
        .pan p_4
      | .fail=>.fail
  | .pan p_2 =>
    .pan p_2
  | .fail=>.fail
theorem e10 (N:Nat) (x:((Int×(Int×(Int×(Int×(Int×(Int×((List (Int×(Int×((Int×(Int×Unit))×(Int×(Int×((Int×(Int×(Int×(Int×Unit))))×Unit)))))))×Unit)))))))×(Int×Unit))):vfnQ Tryz.prog H0 (phi specs10) hints10 N (T10) Tryz.f10 true false (.prod (.prod (.int .i64) (.prod (.int .i64) (.prod (.int .i64) (.prod (.int .i64) (.prod (.int .i64) (.prod (.int .i64) (.prod (.list (.prod (.int .i64) (.prod (.int .i64) (.prod (.prod (.int .i64) (.prod (.int .i64) .unit)) (.prod (.int .i64) (.prod (.int .i64) (.prod (.prod (.int .i64) (.prod (.int .i64) (.prod (.int .i64) (.prod (.int .i64) .unit)))) .unit))))))) .unit))))))) (.prod (.int .i64) .unit)) (.prod (.list (.int .i64)) (.prod (.int .i64) .unit)) (()) x=F10 N x:=by
  kernel_rfl
noncomputable def f10 (x:((Int×(Int×(Int×(Int×(Int×(Int×((List (Int×(Int×((Int×(Int×Unit))×(Int×(Int×((Int×(Int×(Int×(Int×Unit))))×Unit)))))))×Unit)))))))×(Int×Unit))):Out ((List Int)×(Int×Unit)):=dropG (F10 fuel x)
noncomputable def sp10:Spec:=⟨10,.call,(.prod (.prod (.int .i64) (.prod (.int .i64) (.prod (.int .i64) (.prod (.int .i64) (.prod (.int .i64) (.prod (.int .i64) (.prod (.list (.prod (.int .i64) (.prod (.int .i64) (.prod (.prod (.int .i64) (.prod (.int .i64) .unit)) (.prod (.int .i64) (.prod (.int .i64) (.prod (.prod (.int .i64) (.prod (.int .i64) (.prod (.int .i64) (.prod (.int .i64) .unit)))) .unit))))))) .unit))))))) (.prod (.int .i64) .unit)),(.prod (.list (.int .i64)) (.prod (.int .i64) .unit)),true,false,f10⟩
theorem c10:Contract Tryz.prog sp10:=contract_dropZ (H:=H0) () (fun w b h=>h) (fun M w=>trivial) (l:=specs10) (fun sp hs=>(by simp only [specs10,List.mem_cons,List.not_mem_nil,or_false] at hs;rcases hs with rfl|rfl|rfl<;>first|exact c32|exact c33|exact c34)) Tryz.func10 rfl (allQ10 fun s sp hs=>.inl (by simp only [specsQ10,List.mem_cons,List.not_mem_nil,or_false] at hs;rcases hs with rfl|rfl|rfl<;>first|exact c32|exact c33|exact c34)) hints10 fuel (e10 fuel)
end Go.V
namespace Go.V
open Go.Proofs
noncomputable def specs3:List Spec:=[sp9v,sp6,sp7,sp8,sp10,sp11,sp12]
def hints3:List (Nat×List Nat):=[(6,[1,2,3,7,8,9,10])]
noncomputable def L3_0 (N:Nat) (n_L3_0:Nat) (x:((Int×(Int×(Int×(Int×(Int×(Int×((List (Int×(Int×((Int×(Int×Unit))×(Int×(Int×((Int×(Int×(Int×(Int×Unit))))×Unit)))))))×Unit)))))))×(Int×(Int×Unit)))) (r_15:((List Int)×(Int×Unit))) (all_17:Int) (h_18:Int):Out Bool :=
  vloop Tryz.prog (phi specs3) hints3 N Tryz.f3 false false .bool [.at 1,.at 1,.at 1,.at 1,.at 0,.at 1,.at 0] n_L3_0 [.und,.d (.int .i64) x.2.1,.d (.int .i64) x.2.2.1,.box [.d (.int .i64) x.1.1,.d (.int .i64) x.1.2.1,.d (.int .i64) x.1.2.2.1,.d (.int .i64) x.1.2.2.2.1,.d (.int .i64) x.1.2.2.2.2.1,.d (.int .i64) x.1.2.2.2.2.2.1,.d (.list (.prod (.int .i64) (.prod (.int .i64) (.prod (.prod (.int .i64) (.prod (.int .i64) .unit)) (.prod (.int .i64) (.prod (.int .i64) (.prod (.prod (.int .i64) (.prod (.int .i64) (.prod (.int .i64) (.prod (.int .i64) .unit)))) .unit))))))) x.1.2.2.2.2.2.2.1],.und,.und,.und,.d (.list (.int .i64)) r_15.1,.d (.int .i64) r_15.2.1,.d (.int .i64) all_17,.d (.int .i64) h_18,.und,.und,.und,.und,.und,.und,.und,.und,.und,.und,.und,.und,.und,.und,.und,.und,.und,.und,.und,.und,.und,.und,.und,.und,.und,.und,.und,.und,.und,.und,.und,.und,.und,.und,.und,.und,.und,.und,.und,.und,.und,.und,.und,.und,.und,.und,.und,.und,.und,.und,.und,.und,.und,.und,.und,.und,.und,.und,.und,.und,.und,.und,.und,.und,.und,.und,.und,.und,.und,.und,.und,.und,.und,.und,.und,.und,.und,.und,.und,.und,.und,.und,.und,.und,.und,.und,.und,.und,.und,.und,.und,.und,.und,.und,.und,.und,.und,.und,.und,.und,.und,.und,.und]
theorem L3_0_succ (N:Nat) (n_L3_0:Nat) (x:((Int×(Int×(Int×(Int×(Int×(Int×((List (Int×(Int×((Int×(Int×Unit))×(Int×(Int×((Int×(Int×(Int×(Int×Unit))))×Unit)))))))×Unit)))))))×(Int×(Int×Unit)))) (r_15:((List Int)×(Int×Unit))) (all_17:Int) (h_18:Int):L3_0 N  (n_L3_0+1) x r_15 all_17 h_18 =
    (
    match (decide (h_18<x.1.1)) with
    | true =>
      match f11 (x.1,(h_18,())) with
      | .ret r_19 =>
        L3_0 N n_L3_0 x r_15 (IntKind.i64.wrap (all_17+r_19)) (IntKind.i64.wrap (h_18+(1:Int)))
      | .pan p_20 =>
        .pan p_20
      | .fail=>.fail
    | false =>
      match (all_17==(0:Int)) with
      | true =>
        match (r_15.2.1==(5:Int)) with
        | true =>
          match f9v () with
          | .ret r_21 =>
            .ret r_21
          | .pan p_22 =>
            .pan p_22
          | .fail=>.fail
        | false =>
          .ret false
      | false =>
        match f11 (x.1,(x.2.2.1,())) with
        | .ret r_23 =>
          match f12 ((IntKind.i64.wrap (x.2.1 * r_23)),(all_17,((1:Int),()))) with
          | .ret r_25 =>
            match f11 (x.1,(x.2.2.1,())) with
            | .ret r_27 =>
              match f12 ((IntKind.i64.wrap (x.2.1 * r_27)),(all_17,((2:Int),()))) with
              | .ret r_29 =>
                match (r_15.2.1==(0:Int)) with
                | true =>
                  match ((lenI r_15.1)==x.1.1) with
                  | true =>
                    match r_25.2.1 with
                    | true =>
                      match r_29.2.1 with
                      | true =>
                        bif (inb x.2.2.1 r_15.1.length) then
                          match ((List.getD r_15.1 x.2.2.1.toNat (0:Int))==r_25.1) with
                          | true =>
                            match f9v () with
                            | .ret r_31 =>
                              .ret r_31
                            | .pan p_32 =>
                              .pan p_32
                            | .fail=>.fail
                          | false =>
                            bif (inb x.2.2.1 r_15.1.length) then
                              match ((List.getD r_15.1 x.2.2.1.toNat (0:Int))==r_29.1) with
                              | true =>
                                match f9v () with
                                | .ret r_33 =>
                                  .ret r_33
                                | .pan p_34 =>
                                  .pan p_34
                                | .fail=>.fail
                              | false =>
                                .ret false
                            else .fail
                        else .fail
                      | false =>
                        .ret false
                    | false =>
                      .ret false
                  | false =>
                    .ret false
                | false =>
                  .ret false
              | .pan p_30 =>
                .pan p_30
              | .fail=>.fail
            | .pan p_28 =>
              .pan p_28
            | .fail=>.fail
          | .pan p_26 =>
            .pan p_26
          | .fail=>.fail
        | .pan p_24 =>
          .pan p_24
        | .fail=>.fail:Out Bool):=by
  kernel_rfl
noncomputable def F3 (N:Nat) (x:((Int×(Int×(Int×(Int×(Int×(Int×((List (Int×(Int×((Int×(Int×Unit))×(Int×(Int×((Int×(Int×(Int×(Int×Unit))))×Unit)))))))×Unit)))))))×(Int×(Int×Unit)))):Out Bool :=
  match (decide ((lenI x.1.2.2.2.2.2.2.1) > (7:Int))) with
  | true =>
    match f9v () with
    | .ret r_1 =>
      .ret r_1
    | .pan p_2 =>
      .pan p_2
    | .fail=>.fail
  | false =>
    match f6 (x.1,()) with
    | .ret r_3 =>
      match (!r_3) with
      | true =>
        match f9v () with
        | .ret r_5 =>
          .ret r_5
        | .pan p_6 =>
          .pan p_6
        | .fail=>.fail
      | false =>
        match f7 (x.2.1,()) with
        | .ret r_7 =>
          match (!r_7) with
          | true =>
            match f9v () with
            | .ret r_9 =>
              .ret r_9
            | .pan p_10 =>
              .pan p_10
            | .fail=>.fail
          | false =>
            match f8 (x.1,(x.2.2.1,())) with
            | .ret r_11 =>
              match (!r_11) with
              | true =>
                match f9v () with
                | .ret r_13 =>
                  .ret r_13
                | .pan p_14 =>
                  .pan p_14
                | .fail=>.fail
              | false =>
                match f10 (x.1,(x.2.1,())) with
                | .ret r_15 =>
                  L3_0 N N x r_15 (0:Int) (0:Int)
                | .pan p_16 =>
                  .pan p_16
                | .fail=>.fail
            | .pan p_12 =>
              .pan p_12
            | .fail=>.fail
        | .pan p_8 =>
          .pan p_8
        | .fail=>.fail
    | .pan p_4 =>
      .pan p_4
    | .fail=>.fail
theorem e3 (N:Nat) (x:((Int×(Int×(Int×(Int×(Int×(Int×((List (Int×(Int×((Int×(Int×Unit))×(Int×(Int×((Int×(Int×(Int×(Int×Unit))))×Unit)))))))×Unit)))))))×(Int×(Int×Unit)))):vfn Tryz.prog (phi specs3) hints3 N Tryz.f3 false false (.prod (.prod (.int .i64) (.prod (.int .i64) (.prod (.int .i64) (.prod (.int .i64) (.prod (.int .i64) (.prod (.int .i64) (.prod (.list (.prod (.int .i64) (.prod (.int .i64) (.prod (.prod (.int .i64) (.prod (.int .i64) .unit)) (.prod (.int .i64) (.prod (.int .i64) (.prod (.prod (.int .i64) (.prod (.int .i64) (.prod (.int .i64) (.prod (.int .i64) .unit)))) .unit))))))) .unit))))))) (.prod (.int .i64) (.prod (.int .i64) .unit))) .bool x=F3 N x:=by
  kernel_rfl
noncomputable def f3 (x:((Int×(Int×(Int×(Int×(Int×(Int×((List (Int×(Int×((Int×(Int×Unit))×(Int×(Int×((Int×(Int×(Int×(Int×Unit))))×Unit)))))))×Unit)))))))×(Int×(Int×Unit)))):Out Bool:=F3 fuel x
noncomputable def sp3:Spec:=⟨3,.call,(.prod (.prod (.int .i64) (.prod (.int .i64) (.prod (.int .i64) (.prod (.int .i64) (.prod (.int .i64) (.prod (.int .i64) (.prod (.list (.prod (.int .i64) (.prod (.int .i64) (.prod (.prod (.int .i64) (.prod (.int .i64) .unit)) (.prod (.int .i64) (.prod (.int .i64) (.prod (.prod (.int .i64) (.prod (.int .i64) (.prod (.int .i64) (.prod (.int .i64) .unit)))) .unit))))))) .unit))))))) (.prod (.int .i64) (.prod (.int .i64) .unit))),.bool,false,false,f3⟩
theorem c3:Contract Tryz.prog sp3:=contract_at (l:=specs3) (arg:=(.prod (.prod (.int .i64) (.prod (.int .i64) (.prod (.int .i64) (.prod (.int .i64) (.prod (.int .i64) (.prod (.int .i64) (.prod (.list (.prod (.int .i64) (.prod (.int .i64) (.prod (.prod (.int .i64) (.prod (.int .i64) .unit)) (.prod (.int .i64) (.prod (.int .i64) (.prod (.prod (.int .i64) (.prod (.int .i64) (.prod (.int .i64) (.prod (.int .i64) .unit)))) .unit))))))) .unit))))))) (.prod (.int .i64) (.prod (.int .i64) .unit)))) (res:=.bool) (multi:=false) (own:=false) (F:=f3) mixed (all_cons c9v (all_cons c6 (all_cons c7 (all_cons c8 (all_cons c10 (all_cons c11 (all_cons c12 all_nil))))))) Tryz.func3 rfl hints3 fun x _=>⟨fuel,e3 fuel x⟩
end Go.V
