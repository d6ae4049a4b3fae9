/-
  What the frames of the laws share: a code of scores among the arguments, opened.
-/
import Derived.Test.YtenpkmgbaajeeaaFrameMem
import Derived.Test.YtenpkmgbaajeeaaScoresPlain
import Derived.Lib.SmallJoins
namespace Go.Proofs.Ytenpkmgbaajeeaa
open Go.ChangeShapes Go.WideShapes Go.ChangeAt Go.RowKit Go.Deep
set_option linter.unusedVariables false

theorem cells_key : Try.prog.cellsOf 32 = 16 := by kernel_rfl
theorem cells_scores : Try.prog.cellsOf 34 = 19 := by kernel_rfl
theorem cells_ints : Try.prog.cellsOf 30 = 1 := by kernel_rfl

/-- A code of scores, among cells. -/
theorem scores_of_trod {H : Type} {enc : TypeId × Value → H} {W : World} {fuel : Nat} {cs : List Value} {x : DataW H × List MemPlace} (h : DataW.trod enc Try.prog W 0 (fun _ => true) true fuel 34 cs = some x)
    (hw : ∀ n ∈ x.1.weights Try.prog 34, n ≤ reachBytes) : ∃ u b A c l k, cs = scC u b A (List.length l) c k ∧ IR W A c l ∧ k.length = 16 ∧ (-9223372036854775808 ≤ u ∧ u ≤ 9223372036854775807) ∧ (-9223372036854775808 ≤ b ∧ b ≤ 9223372036854775807) := by
  obtain ⟨y0, y1, y2, y3, n, rfl, hl, h0, h1, h2, h3⟩ := Go.Joins.trod_struct4 Try.underlying34 h
  have hw' : ∀ n ∈ DataW.weightsEach Try.prog [3, 3, 30, 32] [y0.1, y1.1, y2.1, y3.1], n ≤ reachBytes := by simpa [DataW.weights, Try.underlying34] using hw
  dsimp only at h0 h1 h2 h3
  rw [cells_int] at h0 h1
  rw [cells_ints] at h2
  rw [cells_key] at h3
  rw [cells_scores] at hl
  obtain ⟨u, e0, hu⟩ := int_of_trod h0
  obtain ⟨b, e1, hb⟩ := int_of_trod h1
  obtain ⟨A, c, l, e2, hI, _⟩ := ints_of_trod Try.underlying30 h2 (fun m hm => hw' m (DataW.weights_mem_each (j := 2) rfl rfl m hm))
  obtain ⟨k, hk, e3⟩ := key_of_trod h3
  refine ⟨u, b, A, c, l, k, ?_, hI, hk, hu, hb⟩
  match cs, hl with
  | c0 :: c1 :: c2 :: r, hl =>
    simp at e0 e1 e2
    have hr : r.length = 16 := by simpa using hl
    rw [show List.drop 3 (c0 :: c1 :: c2 :: r) = r from rfl, List.take_of_length_le (by omega)] at e3
    rw [e0, e1, e2, e3]
    rfl
set_option maxRecDepth 100000 in
theorem open_scores {H : Type} {enc : TypeId × Value → H} {W : World} {b0 : Nat} {v : Value} {d : DataW H} {ps : List MemPlace} (hval : Value.okWide Try.prog W .any b0 34 v) (hd : DataW.Trod enc Try.prog W 0 (fun _ => true) true 34 v d ps)
    (hw : ∀ n ∈ d.weights Try.prog 34, n ≤ reachBytes) : ∃ u b A c l k, v = .agg (scC u b A (List.length l) c k).toArray ∧ IR W A c l ∧ k.length = 16 ∧ (-9223372036854775808 ≤ u ∧ u ≤ 9223372036854775807) ∧ (-9223372036854775808 ≤ b ∧ b ≤ 9223372036854775807) := by
  obtain ⟨cs, rfl, hsz⟩ := okWide_struct Try.underlying34 hval
  obtain ⟨fuel, hf⟩ := hd
  obtain ⟨u, b, A, c, l, k, e, h1, h2, h3, h4⟩ := scores_of_trod hf hw
  refine ⟨u, b, A, c, l, k, ?_, h1, h2, h3, h4⟩
  rw [← e]
  simp [Value.cells]
end Go.Proofs.Ytenpkmgbaajeeaa
