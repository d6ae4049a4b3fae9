/-
  In a region that draws its order: the load of a whole row, the row kept as it is.
-/
import Derived.Test.YtinpiodfpnbllaaWd
import Derived.Laws.Rows
namespace Go.Proofs.Ytinpiodfpnbllaa
open Go.RowKit
set_option linter.unusedVariables false

theorem quiet_load_as {P : Program} {C : World → Prop} {a : Act} {K : Act → Prop} {dst : Option Tmp} {ty : TypeId} {x : Operand} {type : TypeId} {pos : String} {after : Array Edge} {guard : Option (Nat × Bool)}
    (g : Nat) (hx : a.eval x = .pointer (some ⟨g, 0, none⟩)) (t : TypeId) (cs : Array Value) (fr : Nat × Nat) (d : TypeDesc) (hg : ∀ w, C w → w.heap[g]? = some (.cells cs t fr))
    (hu : P.underlying ty = some d) (hd : (match d with | .struct _ | .array _ _ => true | _ => false) = true) (hi : (P.info? ty).map (·.size) = some cs.size)
    (h : Oper.quiet P (Oper.mk dst (.move (.const (.agg cs))) type pos after guard) a C K) : Oper.quiet P (Oper.mk dst (.load ty x) type pos after guard) a C K := by
  obtain ⟨v, h1, h2⟩ := h
  refine ⟨v, fun w hw => ?_, h2⟩
  have e := h1 w hw
  unfold Oper.quietAt at e ⊢
  rw [BigFrame.run_move (.const (.agg cs)) rfl] at e
  have hv : Value.agg cs = v := e.2
  subst hv
  unfold execOp
  simp only [hx, Instr.loadAt, Instr.sureAddr, Sem.run_bind, Sem.run_pure, Result.andThen_ok, run_loadVar_row w g t ty cs fr d (hg w hw) hu hd hi]
  exact ⟨rfl, rfl⟩
end Go.Proofs.Ytinpiodfpnbllaa
