/-
  What the frames of the laws share: fractions among the arguments, opened.
-/
import Derived.Test.YtphaojdfeojpeaaFrameNat
import Derived.Lib.SmallJoins
namespace Go.Proofs.Ytphaojdfeojpeaa
open Go.ChangeShapes Go.WideShapes Go.ChangeAt Go.RowKit
set_option linter.unusedVariables false

theorem cellsFrac : Try.prog.cellsOf 54 = 2 := by kernel_rfl
set_option maxRecDepth 100000 in
theorem open_frac {H : Type} {enc : TypeId × Value → H} {W : World} {b0 : Nat} {v : Value} {d : DataW H} {ps : List MemPlace} (hval : Value.okWide Try.prog W .any b0 54 v) (hd : DataW.Trod enc Try.prog W 0 (fun _ => true) true 54 v d ps)
    (hw : ∀ n ∈ d.weights Try.prog 54, n ≤ reachBytes) : ∃ A c x B e y, v = .agg #[.slice A (List.length x) c, .slice B (List.length y) e] ∧ NR W A c x ∧ NR W B e y := by
  obtain ⟨v0, v1, y0, y1, n, rfl, rfl, _, h0, h1⟩ := Go.Joins.open_agg2 Try.underlying54 (by kernel_rfl) cellsFrac hval hd
  have hw' : ∀ n ∈ DataW.weightsEach Try.prog [41, 41] [y0.1, y1.1], n ≤ reachBytes := by simpa [DataW.weights, Try.underlying54] using hw
  obtain ⟨A, c, x, e1, hx⟩ := nat_of_trod h0 (fun m hm => hw' m (DataW.weights_mem_each (j := 0) rfl rfl m hm))
  obtain ⟨B, e, y, e2, hy⟩ := nat_of_trod h1 (fun m hm => hw' m (DataW.weights_mem_each (j := 1) rfl rfl m hm))
  injection e1 with e1
  injection e2 with e2
  subst e1 e2
  exact ⟨A, c, x, B, e, y, rfl, hx, hy⟩
end Go.Proofs.Ytphaojdfeojpeaa
