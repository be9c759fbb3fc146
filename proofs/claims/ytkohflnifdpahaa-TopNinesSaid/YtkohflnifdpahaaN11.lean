/- A part of the proof of TopNinesSaid: no condition beyond what each theorem says. -/
import Derived.Test.YtkohflnifdpahaaN10
import Derived.Tactics
import Derived.Tactics2
import Derived.WalkKit
import Derived.Defers
import Derived.Recover
import Derived.Laws.Pointers
import Derived.WideLaws
set_option linter.all false
namespace Go.V
open Go.Proofs
open Go.RowKit (Below)
theorem catch_idle (p:Addr) (w:World) :
    CallsD Try.prog 32 #[.pointer (some p)] .returning w fun e u' w'=>e = .returned (.tuple #[])/\u' = .returning/\w'=w:=by
  refine callsD_of_wpS Try.func32 rfl fun c₀ cs hu=>?_
  apply wpS_seq
  apply wpS_region
  simp [wpOpsS,go_sem,recoverD,hu,Try.ntmps32,Exit.thenS]
  refine wpS_of_wp ?_
  have hnil:∀ w:World,(binOp BinOp.eql 20 .nilIface .nilIface).run Try.prog w = .ok (.bool true) w:=fun _=>by kernel_rfl
  go_wp2
  cases c₀
  simp_all [bodyPostS,results,Try.results32]
theorem hnil0 (T:TypeId) (pv:Value) (w:World):(binOp BinOp.eql 20 (.iface T pv) .nilIface).run Try.prog w = .ok (.bool false) w:=run_eql_held_nil w 20 T pv (by kernel_rfl)
theorem has0 (T:TypeId) (pv:Value) {d:TypeDesc} (hu:Try.prog.underlying T=some d) (hd:∀ ms,d ≠ .interface ms) (w:World):(Instr.typeAssert (.iface T pv) 20 T true).run Try.prog w = .ok (.tuple #[pv,.bool true]) w:=by
  simp only [Sem.run_bind,Instr.typeAssert,run_underlying hu]
  cases d<;>first|exact absurd rfl (hd _)|simp
theorem hasnt0 (T A:TypeId) (pv z:Value) {d:TypeDesc} (hu:Try.prog.underlying A=some d) (hd:∀ ms,d ≠ .interface ms) (hT:T≠A) (hz:∀ w,(zeroValue A).run Try.prog w = .ok z w) (w:World):(Instr.typeAssert (.iface T pv) 20 A true).run Try.prog w = .ok (.tuple #[z,.bool false]) w:=by
  simp only [Sem.run_bind,Instr.typeAssert,run_underlying hu]
  cases d<;>first|exact absurd rfl (hd _)|simp [hT,hz]
theorem und71:Try.prog.underlying 71=some (.struct ((Try.prog.underlying 71).elim #[] fun d=>match d with | .struct fs=>fs|_ => #[])):=by kernel_rfl
theorem und73:Try.prog.underlying 73=some (.struct ((Try.prog.underlying 73).elim #[] fun d=>match d with | .struct fs=>fs|_ => #[])):=by kernel_rfl
theorem catch_wrong (p:Addr) (x:Int) (c:Value) (h1:c.oneCell'=true) (older:List PanicEntry) (w:World) (hc:w.cell? p=some (.int .i64 x)) (hz:w.frozen? p=false) :
    CallsD Try.prog 32 #[.pointer (some p)] (.panicking ({ v:=.iface 71 (.agg #[c]),recovered:=false } :: older)) w fun e u' w' =>
      e = .returned (.tuple #[])/\u' = .panicking ({ v:=.iface 71 (.agg #[c]),recovered:=true } :: older)/\∃ o,w'=(w.alloc o).setCell p (.int .i64 5):=by
  have hplt:p.block<w.heap.size:=World.block_lt_of_cell? w p hc
  have hca:∀ o,(w.alloc o).cell? p=some (.int .i64 x):=fun o=>(World.cell?_of_block (Below.heap_alloc w o p.block hplt)).trans hc
  have hfz:∀ o,(w.alloc o).frozen? p=false:=fun o=>(World.frozen?_alloc_old w o p (by omega)).trans hz
  refine callsD_of_wpS Try.func32 rfl fun c₀ cs hu=>?_
  apply wpS_seq
  apply wpS_region
  simp [wpOpsS,go_sem,recoverD,hu,Try.ntmps32,Exit.thenS]
  refine wpS_of_wp ?_
  have hnil:∀ w:World,(binOp BinOp.eql 20 (.iface 71 (.agg #[c])) .nilIface).run Try.prog w = .ok (.bool false) w:=hnil0 71 _
  have has:∀ w:World,(Instr.typeAssert (.iface 71 (.agg #[c])) 20 71 true).run Try.prog w = .ok (.tuple #[(.agg #[c]),.bool true]) w:=has0 71 _ und71 (fun _ h=>by cases h)
  have hst:∀ a (w:World),(store a c).run Try.prog w=stored Try.prog w a c .plain:=fun a w=>run_store _ w a c .plain h1
  apply wp_block
  apply wp_seq
  apply wp_region
  simp [wpOps,go_sem,hnil,Exit.then]
  repeat refine Or.inl ?_
  refine wp_cond (t:=false) ?_ ?_
  . simp [Act.eval,Array.replicate]
  simp only [Bool.false_eq_true,if_false]
  apply wp_seq
  apply wp_region
  simp [wpOps,go_sem,has,Exit.then]
  repeat refine Or.inl ?_
  refine wp_cond (t:=true) ?_ ?_
  . simp [Act.eval,Array.replicate]
  simp only [if_true]
  apply wp_seq
  apply wp_region
  simp [wpOps,go_sem,hst,Exit.then]
  repeat refine Or.inl ?_
  apply wp_region
  simp [wpOps,go_sem,hfz,hca,Exit.inBlock]
  repeat refine Or.inl ?_
  cases c₀
  simp_all [bodyPostS,results,Try.results32]
  exact ⟨_,rfl⟩
theorem catch_noText (p:Addr) (x:Int) (c:Value) (h1:c.oneCell'=true) (older:List PanicEntry) (w:World) (hc:w.cell? p=some (.int .i64 x)) (hz:w.frozen? p=false) :
    CallsD Try.prog 32 #[.pointer (some p)] (.panicking ({ v:=.iface 73 (.agg #[c]),recovered:=false } :: older)) w fun e u' w' =>
      e = .returned (.tuple #[])/\u' = .panicking ({ v:=.iface 73 (.agg #[c]),recovered:=true } :: older)/\∃ o,w'=(w.alloc o).setCell p (.int .i64 4):=by
  have hplt:p.block<w.heap.size:=World.block_lt_of_cell? w p hc
  have hca:∀ o,(w.alloc o).cell? p=some (.int .i64 x):=fun o=>(World.cell?_of_block (Below.heap_alloc w o p.block hplt)).trans hc
  have hfz:∀ o,(w.alloc o).frozen? p=false:=fun o=>(World.frozen?_alloc_old w o p (by omega)).trans hz
  refine callsD_of_wpS Try.func32 rfl fun c₀ cs hu=>?_
  apply wpS_seq
  apply wpS_region
  simp [wpOpsS,go_sem,recoverD,hu,Try.ntmps32,Exit.thenS]
  refine wpS_of_wp ?_
  have hnil:∀ w:World,(binOp BinOp.eql 20 (.iface 73 (.agg #[c])) .nilIface).run Try.prog w = .ok (.bool false) w:=hnil0 73 _
  have hasnt:∀ w:World,(Instr.typeAssert (.iface 73 (.agg #[c])) 20 71 true).run Try.prog w = .ok (.tuple #[(.agg #[.int .i64 0]),.bool false]) w:=hasnt0 73 71 _ _ und71 (fun _ h=>by cases h) (by decide) (fun w=>by kernel_rfl)
  have has:∀ w:World,(Instr.typeAssert (.iface 73 (.agg #[c])) 20 73 true).run Try.prog w = .ok (.tuple #[(.agg #[c]),.bool true]) w:=has0 73 _ und73 (fun _ h=>by cases h)
  have hst:∀ a (w:World),(store a c).run Try.prog w=stored Try.prog w a c .plain:=fun a w=>run_store _ w a c .plain h1
  apply wp_block
  apply wp_seq
  apply wp_region
  simp [wpOps,go_sem,hnil,Exit.then]
  repeat refine Or.inl ?_
  refine wp_cond (t:=false) ?_ ?_
  . simp [Act.eval,Array.replicate]
  simp only [Bool.false_eq_true,if_false]
  apply wp_seq
  apply wp_region
  simp [wpOps,go_sem,hasnt,Exit.then]
  repeat refine Or.inl ?_
  refine wp_cond (t:=false) ?_ ?_
  . simp [Act.eval,Array.replicate]
  simp only [Bool.false_eq_true,if_false]
  apply wp_seq
  apply wp_region
  simp [wpOps,go_sem,has,Exit.then]
  repeat refine Or.inl ?_
  refine wp_cond (t:=true) ?_ ?_
  . simp [Act.eval,Array.replicate]
  simp only [if_true]
  apply wp_seq
  apply wp_region
  simp [wpOps,go_sem,hst,Exit.then]
  repeat refine Or.inl ?_
  apply wp_region
  simp [wpOps,go_sem,hfz,hca,Exit.inBlock]
  repeat refine Or.inl ?_
  cases c₀
  simp_all [bodyPostS,results,Try.results32]
  exact ⟨_,rfl⟩
theorem cell_set {W:World} {p:Addr} {v:Value} (h:W.cell? p=some v) (u:Value):(W.setCell p u).cell? p=some u:=World.cell?_setCell_same' W p u (by rw [h];rfl)
theorem fr_set (W:World) (b:Nat) (v:Value):Fr (fun k=>k<W.heap.size/\k≠b) W (W.setCell ⟨b,0,none⟩ v) :=
  ⟨rfl,rfl,rfl,by simp,fun k hk=>Below.heap_setCell W _ _ k hk.2⟩
theorem fr_allocset (W:World) (o:Obj) (b:Nat) (v:Value):Fr (fun k=>k<W.heap.size/\k≠b) W ((W.alloc o).setCell ⟨b,0,none⟩ v) :=
  ⟨rfl,rfl,rfl,by simp,fun k hk=>(Below.heap_setCell _ _ _ k hk.2).trans (Below.heap_alloc W o k hk.1)⟩
theorem attempt_calls {v:Value} {g:Nat} {fs pc:Array Value} (hv:v = .func (.func g) fs pc) (hent:enters Try.prog g=true) {w:World} {R:Ending->World->Prop}
    (h:Calls Try.prog g (fs++pc) (w.alloc (.cells #[.int .i64 0] 26)) R)
    (hR:∀ e W,R e W->W.heap[w.heap.size]? = some (.cells #[.int .i64 0] 26 (0,0))/\((∃ u,e = .returned u)\/∃ T c,(T=71\/T=73)/\c.oneCell'=true/\e = .panicked [{ v:=.iface T (.agg #[c]),recovered:=false }])) :
    Calls Try.prog 16 #[v] w fun e w'=>∃ e0 W,R e0 W/\Fr (fun b=>b<W.heap.size/\b≠w.heap.size) W w' /\
      (((∃ u,e0 = .returned u)/\e = .returned (.int .i64 0))\/(∃ c,e0 = .panicked [{ v:=.iface 71 (.agg #[c]),recovered:=false }]/\e = .returned (.int .i64 5)) \/
        (∃ c,e0 = .panicked [{ v:=.iface 73 (.agg #[c]),recovered:=false }]/\e = .returned (.int .i64 4))):=by
  subst hv
  have hmf:∀ (fn:Fn) (first cap:Array Value) (w:World),(Instr.makeFunc fn first cap).run Try.prog w = .ok (.func fn first cap) w:=fun _ _ _ _=>rfl
  have he:∀ args (w:World),(callFunc g args).run Try.prog w = .ok (.enter g args) w:=fun args w=>enters_run hent args w
  go_enter_defers Try.func16,Try.ntmps16
  repeat go_step
  refine h.mono ?_
  rintro e W hRW
  obtain ⟨hcell,hends⟩:=hR e W hRW
  have hlt:w.heap.size<W.heap.size:=(Array.getElem?_eq_some_iff.1 hcell).1
  have hc:W.cell? ⟨w.heap.size,0,none⟩=some (.int .i64 0):=by simp [World.cell?,hcell]
  have hz:W.frozen? ⟨w.heap.size,0,none⟩=false:=by simp [World.frozen?,hcell]
  have hca:∀ o,(W.alloc o).cell? ⟨w.heap.size,0,none⟩=some (.int .i64 0):=fun o=>(World.cell?_of_block (Below.heap_alloc W o w.heap.size hlt)).trans hc
  rcases hends with ⟨u,rfl⟩|⟨T,c,hT,h1,rfl⟩
  . dsimp only
    repeat go_step
    refine leaves_cons (f:=32) (args := #[.pointer (some ⟨w.heap.size,0,none⟩)]) (by simp) (by simp [go_sem]) ?_
    refine (catch_idle ⟨w.heap.size,0,none⟩ _).mono ?_
    rintro e u' w'' ⟨rfl,rfl,rfl⟩
    have hb:(W.setCell ⟨w.heap.size,0,none⟩ (.int .i64 0)).cell? ⟨w.heap.size,0,none⟩=some (.int .i64 0):=cell_set hc _
    simp [Leaves,settle,results,Try.results16,go_sem,hb]
    exact ⟨_,_,hRW,fr_set _ _ _,_,rfl⟩
  . dsimp only
    refine leaves_cons (f:=32) (args := #[.pointer (some ⟨w.heap.size,0,none⟩)]) (by simp) (by simp [go_sem]) ?_
    rcases hT with rfl|rfl
    . refine (catch_wrong ⟨w.heap.size,0,none⟩ 0 c h1 [] _ hc hz).mono ?_
      rintro e u' w'' ⟨rfl,rfl,o,rfl⟩
      have hb:((W.alloc o).setCell ⟨w.heap.size,0,none⟩ (.int .i64 5)).cell? ⟨w.heap.size,0,none⟩=some (.int .i64 5):=cell_set (hca o) _
      simp [Leaves,settle,results,Try.results16,go_sem,hb]
      exact ⟨_,_,hRW,fr_allocset _ _ _ _,_,rfl⟩
    . refine (catch_noText ⟨w.heap.size,0,none⟩ 0 c h1 [] _ hc hz).mono ?_
      rintro e u' w'' ⟨rfl,rfl,o,rfl⟩
      have hb:((W.alloc o).setCell ⟨w.heap.size,0,none⟩ (.int .i64 4)).cell? ⟨w.heap.size,0,none⟩=some (.int .i64 4):=cell_set (hca o) _
      simp [Leaves,settle,results,Try.results16,go_sem,hb]
      exact ⟨_,_,hRW,fr_allocset _ _ _ _,_,rfl⟩
end Go.V
