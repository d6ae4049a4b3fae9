/-
  Lemmas and contracts, joined.
-/
import Derived.Lib.SmallJoins
import Derived.ChangeSame
import Derived.Test.YtenpkmgbaajeeaaGreatTwCw1
import Derived.Test.YtenpkmgbaajeeaaGreatTwCn1
import Derived.Test.YtenpkmgbaajeeaaGreatTwCt1
set_option linter.unusedSimpArgs false
set_option linter.unusedVariables false
set_option linter.unnecessarySimpa false
/- What the frames of the laws share: a code of steps among the arguments, opened. -/
namespace Go.Proofs.YtenpkmgbaajeeaaGreat
open Go.ChangeShapes Go.WideShapes Go.ChangeAt Go.RowKit Go.Deep
set_option linter.unusedVariables false

theorem cells_keyT : Tryz.prog.cellsOf 23 = 16 := by kernel_rfl
theorem cells_fracT : Tryz.prog.cellsOf 27 = 2 := by kernel_rfl
theorem cells_natT : Tryz.prog.cellsOf 25 = 1 := by kernel_rfl
/-- A fraction, among cells. -/
theorem frac_of_trod {H : Type} {enc : TypeId × Value → H} {W : World} {fuel : Nat} {cs : List Value} {x : DataW H × List MemPlace} (h : DataW.trod enc Tryz.prog W 0 (fun _ => true) true fuel 27 cs = some x)
    (hw : ∀ n ∈ x.1.weights Tryz.prog 27, n ≤ reachBytes) : ∃ A c a B e b, cs = [.slice A (List.length a) c, .slice B (List.length b) e] ∧ NR W A c a ∧ NR W B e b := by
  obtain ⟨y0, y1, n, rfl, hl, h0, h1⟩ := trod_struct2 Tryz.underlying27 h
  have hw' : ∀ n ∈ DataW.weightsEach Tryz.prog [25, 25] [y0.1, y1.1], n ≤ reachBytes := by simpa [DataW.weights, Tryz.underlying27] using hw
  dsimp only at h0 h1
  rw [cells_natT] at h0 h1
  rw [cells_fracT] at hl
  obtain ⟨A, c, a, e1, hx⟩ := nat_of_trod h0 (fun m hm => hw' m (DataW.weights_mem_each (j := 0) rfl rfl m hm))
  obtain ⟨B, e, b, e2, hy⟩ := nat_of_trod h1 (fun m hm => hw' m (DataW.weights_mem_each (j := 1) rfl rfl m hm))
  refine ⟨A, c, a, B, e, b, ?_, hx, hy⟩
  match cs, hl with
  | [c0, c1], _ =>
    simp at e1 e2
    rw [e1, e2]
end Go.Proofs.YtenpkmgbaajeeaaGreat
