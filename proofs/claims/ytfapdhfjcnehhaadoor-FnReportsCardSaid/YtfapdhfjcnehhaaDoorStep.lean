
/-
  A contract of a Go function handed into a region that draws its order, as one step (for go_region_law, where a store at the end hits a cell that the region loads).
-/
import Derived.Test.YtfapdhfjcnehhaaDoorBase
import Derived.Deep.RegionLaw
import Derived.Deep.AppendLies
import Derived.BigCall
namespace Go.Proofs.YtfapdhfjcnehhaaDoor
open Go.RowKit
theorem step_calls {P : Program} {ops : Array Oper} {o : Oper} {a : Act} {w : World} {K : Act → World → Prop} {Q : Exit → Act → World → Prop} {E : Prop} (hgd : o.guard = none) (f : FuncId) {fn : Func} (hf : P.funcs[f]? = some fn) (hname : (fn.name == "runtime.NumGoroutine") = false) (hb : fn.body.isSome = true) (xs : Array Operand) (ts : Array TypeId)
    (ho : o.op = .call { callee := .value (.func f), args := xs, argTypes := ts }) (args : Array Value) (hargs : xs.map a.eval = args) {R : Ending → World → Prop} (hc : Calls P f args w R)
    (h : ∀ e w', R e w' → ∃ v, e = .returned v ∧ K (a.put o.dst v) w') :
    if Region.wanted o (yielded ops a.tmps) = true then Oper.wp P o a w K Q else E := by
  have hw : Region.wanted o (yielded ops a.tmps) = true := by simp [Region.wanted, hgd]
  rw [if_pos hw]
  have hrun : (execOp a.eval o).run P w = .ok (.enter f args) w := by
    obtain ⟨c, hc2⟩ := Option.isSome_iff_exists.1 hb
    have h1 : fn.name ≠ "runtime.NumGoroutine" := by simpa using hname
    have h2 : (callFunc f args).run P w = .ok (.enter f args) w := by simp [callFunc, hf, h1, hc2]
    have h3 : execOp a.eval o = callFunc f args := by
      cases o
      simp only at ho
      subst ho
      rw [execOp_call_go, hargs]
      simp
    rw [h3, h2]
  unfold Oper.wp
  rw [hrun, Oper.upon_enter]
  exact hc.mono fun e w' hR => by
    obtain ⟨v, rfl, hk⟩ := h e w' hR
    exact hk
end Go.Proofs.YtfapdhfjcnehhaaDoor
