/- Part. -/
import Derived.Test.YtmkbnifehdhbbabGreatDoorCH
import Derived.Tactics
import Derived.Tactics2
import Derived.WalkKit
import Derived.Defers
import Derived.Recover
import Derived.Laws.Pointers
import Derived.WideLaws
set_option linter.all false
noncomputable section
namespace Go.V
open Go.Proofs
open Go.RowKit (Below)
theorem MZ (p:Addr) (w:World) :
 CallsD Tryz.prog 108 #[.pointer (some p)] .returning w fun e u' w'=>e = .returned (.tuple #[])/\u' = .returning/\w'=w:=by
 refine callsD_of_wpS Tryz.func108 rfl fun c₀ cs hu=>?_
 apply wpS_seq;apply wpS_region;simp [wpOpsS,go_sem,recoverD,hu,Tryz.ntmps108,Exit.thenS];refine wpS_of_wp ?_;have hnil:∀ w:World,(binOp BinOp.eql 20 .nilIface .nilIface).run Tryz.prog w = .ok (.bool true) w:=fun _=>by kernel_rfl
 go_wp2
 cases c₀
 simp_all [bodyPostS,results,Tryz.results108]
theorem Gm (T:TypeId) (pv:Value) (w:World):(binOp BinOp.eql 20 (.iface T pv) .nilIface).run Tryz.prog w = .ok (.bool false) w:=run_eql_held_nil w 20 T pv (by kernel_rfl)
theorem FM (T:TypeId) (pv:Value) {d:TypeDesc} (hu:Tryz.prog.underlying T=some d) (hd:∀ ms,d ≠ .interface ms) (w:World):(Instr.typeAssert (.iface T pv) 20 T true).run Tryz.prog w = .ok (.tuple #[pv,.bool true]) w:=by
 simp only [Sem.run_bind,Instr.typeAssert,run_underlying hu];cases d<;>first|exact absurd rfl (hd _)|simp
theorem Rw (T A:TypeId) (pv z:Value) {d:TypeDesc} (hu:Tryz.prog.underlying A=some d) (hd:∀ ms,d ≠ .interface ms) (hT:T≠A) (hz:∀ w,(zeroValue A).run Tryz.prog w = .ok z w) (w:World):(Instr.typeAssert (.iface T pv) 20 A true).run Tryz.prog w = .ok (.tuple #[z,.bool false]) w:=by
 simp only [Sem.run_bind,Instr.typeAssert,run_underlying hu];cases d<;>first|exact absurd rfl (hd _)|simp [hT,hz]
theorem JO:Tryz.prog.underlying 144=some (.struct ((Tryz.prog.underlying 144).elim #[] fun d=>match d with | .struct fs=>fs|_ => #[])):=by kernel_rfl
theorem Wj:Tryz.prog.underlying 146=some (.struct ((Tryz.prog.underlying 146).elim #[] fun d=>match d with | .struct fs=>fs|_ => #[])):=by kernel_rfl
theorem M6 (p:Addr) (x:Int) (c:Value) (h1:c.oneCell'=true) (older:List PanicEntry) (w:World) (hc:w.cell? p=some (.int .i64 x)) (hz:w.frozen? p=false) :
 CallsD Tryz.prog 108 #[.pointer (some p)] (.panicking ({ v:=.iface 144 (.agg #[c]),recovered:=false } :: older)) w fun e u' w' =>
  e = .returned (.tuple #[])/\u' = .panicking ({ v:=.iface 144 (.agg #[c]),recovered:=true } :: older)/\∃ o,w'=(w.alloc o).setCell p (.int .i64 7):=by
 have hplt:p.block<w.heap.size:=World.block_lt_of_cell? w p hc;have hca:∀ o,(w.alloc o).cell? p=some (.int .i64 x):=fun o=>(World.cell?_of_block (Below.heap_alloc w o p.block hplt)).trans hc
 have hfz:∀ o,(w.alloc o).frozen? p=false:=fun o=>(World.frozen?_alloc_old w o p (by omega)).trans hz
 refine callsD_of_wpS Tryz.func108 rfl fun c₀ cs hu=>?_
 apply wpS_seq;apply wpS_region;simp [wpOpsS,go_sem,recoverD,hu,Tryz.ntmps108,Exit.thenS];refine wpS_of_wp ?_;have hnil:∀ w:World,(binOp BinOp.eql 20 (.iface 144 (.agg #[c])) .nilIface).run Tryz.prog w = .ok (.bool false) w:=Gm 144 _;have has:∀ w:World,(Instr.typeAssert (.iface 144 (.agg #[c])) 20 144 true).run Tryz.prog w = .ok (.tuple #[(.agg #[c]),.bool true]) w:=FM 144 _ JO (fun _ h=>by cases h);have hst:∀ a (w:World),(store a c).run Tryz.prog w=stored Tryz.prog w a c .plain:=fun a w=>run_store _ w a c .plain h1
 apply wp_block;apply wp_seq;apply wp_region;simp [wpOps,go_sem,hnil,Exit.then]
 repeat refine Or.inl ?_
 refine wp_cond (t:=false) ?_ ?_
 . simp [Act.eval,Array.replicate]
 simp only [Bool.false_eq_true,if_false];apply wp_seq;apply wp_region;simp [wpOps,go_sem,has,Exit.then]
 repeat refine Or.inl ?_
 refine wp_cond (t:=true) ?_ ?_
 . simp [Act.eval,Array.replicate]
 simp only [if_true];apply wp_seq;apply wp_region;simp [wpOps,go_sem,hst,Exit.then]
 repeat refine Or.inl ?_
 apply wp_region;simp [wpOps,go_sem,hfz,hca,Exit.inBlock]
 repeat refine Or.inl ?_
 cases c₀
 simp_all [bodyPostS,results,Tryz.results108]
 exact ⟨_,rfl⟩
theorem M4 (p:Addr) (x:Int) (c:Value) (h1:c.oneCell'=true) (older:List PanicEntry) (w:World) (hc:w.cell? p=some (.int .i64 x)) (hz:w.frozen? p=false) :
 CallsD Tryz.prog 108 #[.pointer (some p)] (.panicking ({ v:=.iface 146 (.agg #[c]),recovered:=false } :: older)) w fun e u' w' =>
  e = .returned (.tuple #[])/\u' = .panicking ({ v:=.iface 146 (.agg #[c]),recovered:=true } :: older)/\∃ o,w'=(w.alloc o).setCell p (.int .i64 4):=by
 have hplt:p.block<w.heap.size:=World.block_lt_of_cell? w p hc;have hca:∀ o,(w.alloc o).cell? p=some (.int .i64 x):=fun o=>(World.cell?_of_block (Below.heap_alloc w o p.block hplt)).trans hc
 have hfz:∀ o,(w.alloc o).frozen? p=false:=fun o=>(World.frozen?_alloc_old w o p (by omega)).trans hz
 refine callsD_of_wpS Tryz.func108 rfl fun c₀ cs hu=>?_
 apply wpS_seq;apply wpS_region;simp [wpOpsS,go_sem,recoverD,hu,Tryz.ntmps108,Exit.thenS];refine wpS_of_wp ?_;have hnil:∀ w:World,(binOp BinOp.eql 20 (.iface 146 (.agg #[c])) .nilIface).run Tryz.prog w = .ok (.bool false) w:=Gm 146 _;have hasnt:∀ w:World,(Instr.typeAssert (.iface 146 (.agg #[c])) 20 144 true).run Tryz.prog w = .ok (.tuple #[(.agg #[.int .i64 0]),.bool false]) w:=Rw 146 144 _ _ JO (fun _ h=>by cases h) (by decide) (fun w=>by kernel_rfl);have has:∀ w:World,(Instr.typeAssert (.iface 146 (.agg #[c])) 20 146 true).run Tryz.prog w = .ok (.tuple #[(.agg #[c]),.bool true]) w:=FM 146 _ Wj (fun _ h=>by cases h);have hst:∀ a (w:World),(store a c).run Tryz.prog w=stored Tryz.prog w a c .plain:=fun a w=>run_store _ w a c .plain h1
 apply wp_block;apply wp_seq;apply wp_region;simp [wpOps,go_sem,hnil,Exit.then]
 repeat refine Or.inl ?_
 refine wp_cond (t:=false) ?_ ?_
 . simp [Act.eval,Array.replicate]
 simp only [Bool.false_eq_true,if_false];apply wp_seq;apply wp_region;simp [wpOps,go_sem,hasnt,Exit.then]
 repeat refine Or.inl ?_
 refine wp_cond (t:=false) ?_ ?_
 . simp [Act.eval,Array.replicate]
 simp only [Bool.false_eq_true,if_false];apply wp_seq;apply wp_region;simp [wpOps,go_sem,has,Exit.then]
 repeat refine Or.inl ?_
 refine wp_cond (t:=true) ?_ ?_
 . simp [Act.eval,Array.replicate]
 simp only [if_true];apply wp_seq;apply wp_region;simp [wpOps,go_sem,hst,Exit.then]
 repeat refine Or.inl ?_
 apply wp_region;simp [wpOps,go_sem,hfz,hca,Exit.inBlock]
 repeat refine Or.inl ?_
 cases c₀
 simp_all [bodyPostS,results,Tryz.results108]
 exact ⟨_,rfl⟩
theorem yf {W:World} {p:Addr} {v:Value} (h:W.cell? p=some v) (u:Value):(W.setCell p u).cell? p=some u:=World.cell?_setCell_same' W p u (by rw [h];rfl)
theorem Rg (W:World) (b:Nat) (v:Value):Fr (fun k=>k<W.heap.size/\k≠b) W (W.setCell ⟨b,0,none⟩ v) :=
 ⟨rfl,rfl,rfl,by simp,fun k hk=>Below.heap_setCell W _ _ k hk.2⟩
theorem FG (W:World) (o:Obj) (b:Nat) (v:Value):Fr (fun k=>k<W.heap.size/\k≠b) W ((W.alloc o).setCell ⟨b,0,none⟩ v) :=
 ⟨rfl,rfl,rfl,by simp,fun k hk=>(Below.heap_setCell _ _ _ k hk.2).trans (Below.heap_alloc W o k hk.1)⟩
theorem sG {v:Value} {g:Nat} {fs pc:Array Value} (hv:v = .func (.func g) fs pc) (hent:fG Tryz.prog g=true) {w:World} {R:Ending->World->Prop}
 (h:Calls Tryz.prog g (fs++pc) (w.alloc (.cells #[.int .i64 0] 28)) R)
 (hR:∀ e W,R e W->W.heap[w.heap.size]? = some (.cells #[.int .i64 0] 28 (0,0))/\((∃ u,e = .returned u)\/∃ T c,(T=144\/T=146)/\c.oneCell'=true/\e = .panicked [{ v:=.iface T (.agg #[c]),recovered:=false }])) :
 Calls Tryz.prog 74 #[v] w fun e w'=>∃ e0 W,R e0 W/\Fr (fun b=>b<W.heap.size/\b≠w.heap.size) W w' /\
  (((∃ u,e0 = .returned u)/\e = .returned (.int .i64 0))\/(∃ c,e0 = .panicked [{ v:=.iface 144 (.agg #[c]),recovered:=false }]/\e = .returned (.int .i64 7)) \/
   (∃ c,e0 = .panicked [{ v:=.iface 146 (.agg #[c]),recovered:=false }]/\e = .returned (.int .i64 4))):=by
 subst hv;have hmf:∀ (fn:Fn) (first cap:Array Value) (w:World),(Instr.makeFunc fn first cap).run Tryz.prog w = .ok (.func fn first cap) w:=fun _ _ _ _=>rfl
 have he:∀ args (w:World),(callFunc g args).run Tryz.prog w = .ok (.enter g args) w:=fun args w=>dK hent args w
 go_enter_defers Tryz.func74,Tryz.ntmps74
 repeat go_step
 refine h.mono ?_;rintro e W hRW;obtain ⟨hcell,hends⟩:=hR e W hRW;have hlt:w.heap.size<W.heap.size:=(Array.getElem?_eq_some_iff.1 hcell).1;have hc:W.cell? ⟨w.heap.size,0,none⟩=some (.int .i64 0):=by simp [World.cell?,hcell]
 have hz:W.frozen? ⟨w.heap.size,0,none⟩=false:=by simp [World.frozen?,hcell]
 have hca:∀ o,(W.alloc o).cell? ⟨w.heap.size,0,none⟩=some (.int .i64 0):=fun o=>(World.cell?_of_block (Below.heap_alloc W o w.heap.size hlt)).trans hc
 rcases hends with ⟨u,rfl⟩|⟨T,c,hT,h1,rfl⟩
 . dsimp only
   repeat go_step
   refine leaves_cons (f:=108) (args := #[.pointer (some ⟨w.heap.size,0,none⟩)]) (by simp) (by simp [go_sem]) ?_;refine (MZ ⟨w.heap.size,0,none⟩ _).mono ?_;rintro e u' w'' ⟨rfl,rfl,rfl⟩;have hb:(W.setCell ⟨w.heap.size,0,none⟩ (.int .i64 0)).cell? ⟨w.heap.size,0,none⟩=some (.int .i64 0):=yf hc _;simp [Leaves,settle,results,Tryz.results74,go_sem,hb];exact ⟨_,_,hRW,Rg _ _ _,_,rfl⟩
 . dsimp only;refine leaves_cons (f:=108) (args := #[.pointer (some ⟨w.heap.size,0,none⟩)]) (by simp) (by simp [go_sem]) ?_;rcases hT with rfl|rfl
   . refine (M6 ⟨w.heap.size,0,none⟩ 0 c h1 [] _ hc hz).mono ?_;rintro e u' w'' ⟨rfl,rfl,o,rfl⟩;have hb:((W.alloc o).setCell ⟨w.heap.size,0,none⟩ (.int .i64 7)).cell? ⟨w.heap.size,0,none⟩=some (.int .i64 7):=yf (hca o) _;simp [Leaves,settle,results,Tryz.results74,go_sem,hb];exact ⟨_,_,hRW,FG _ _ _ _,_,rfl⟩
   . refine (M4 ⟨w.heap.size,0,none⟩ 0 c h1 [] _ hc hz).mono ?_;rintro e u' w'' ⟨rfl,rfl,o,rfl⟩;have hb:((W.alloc o).setCell ⟨w.heap.size,0,none⟩ (.int .i64 4)).cell? ⟨w.heap.size,0,none⟩=some (.int .i64 4):=yf (hca o) _;simp [Leaves,settle,results,Tryz.results74,go_sem,hb];exact ⟨_,_,hRW,FG _ _ _ _,_,rfl⟩
end Go.V
end
