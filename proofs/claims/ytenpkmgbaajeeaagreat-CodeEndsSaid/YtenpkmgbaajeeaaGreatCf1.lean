/-
  Lemmas and contracts, joined.
-/
import Derived.Lib.SmallJoins
import Derived.ChangeSame
import Derived.Test.YtenpkmgbaajeeaaGreatCw1
import Derived.Test.YtenpkmgbaajeeaaGreatCn1
import Derived.Test.YtenpkmgbaajeeaaGreatCt1
set_option linter.unusedSimpArgs false
set_option linter.unusedVariables false
set_option linter.unnecessarySimpa false
/- What the frames of the laws share: a code of steps among the arguments, opened. -/
namespace Go.Proofs.YtenpkmgbaajeeaaGreat
open Go.ChangeShapes Go.WideShapes Go.ChangeAt Go.RowKit Go.Deep
set_option linter.unusedVariables false

theorem cells_keyT : Tryz.prog.cellsOf 23 = 16 := by kernel_rfl
theorem cells_fracT : Tryz.prog.cellsOf 27 = 2 := by kernel_rfl
theorem cells_natT : Tryz.prog.cellsOf 25 = 1 := by kernel_rfl
theorem cells_stepsT : Tryz.prog.cellsOf 29 = 20 := by kernel_rfl
/-- A fraction, among cells. -/
theorem frac_of_trod {H : Type} {enc : TypeId × Value → H} {W : World} {fuel : Nat} {cs : List Value} {x : DataW H × List MemPlace} (h : DataW.trod enc Tryz.prog W 0 (fun _ => true) true fuel 27 cs = some x)
    (hw : ∀ n ∈ x.1.weights Tryz.prog 27, n ≤ reachBytes) : ∃ A c a B e b, cs = [.slice A (List.length a) c, .slice B (List.length b) e] ∧ NR W A c a ∧ NR W B e b := by
  obtain ⟨y0, y1, n, rfl, hl, h0, h1⟩ := trod_struct2 Tryz.underlying27 h
  have hw' : ∀ n ∈ DataW.weightsEach Tryz.prog [25, 25] [y0.1, y1.1], n ≤ reachBytes := by simpa [DataW.weights, Tryz.underlying27] using hw
  dsimp only at h0 h1
  rw [cells_natT] at h0 h1
  rw [cells_fracT] at hl
  obtain ⟨A, c, a, e1, hx⟩ := nat_of_trod h0 (fun m hm => hw' m (DataW.weights_mem_each (j := 0) rfl rfl m hm))
  obtain ⟨B, e, b, e2, hy⟩ := nat_of_trod h1 (fun m hm => hw' m (DataW.weights_mem_each (j := 1) rfl rfl m hm))
  refine ⟨A, c, a, B, e, b, ?_, hx, hy⟩
  match cs, hl with
  | [c0, c1], _ =>
    simp at e1 e2
    rw [e1, e2]
/-- A code of steps, among cells. -/
theorem steps_of_trod {H : Type} {enc : TypeId × Value → H} {W : World} {fuel : Nat} {cs : List Value} {x : DataW H × List MemPlace} (h : DataW.trod enc Tryz.prog W 0 (fun _ => true) true fuel 29 cs = some x)
    (hw : ∀ n ∈ x.1.weights Tryz.prog 29, n ≤ reachBytes) : ∃ s : StV, cs = s.cs ∧ StOK W s ∧ (-9223372036854775808 ≤ s.u ∧ s.u ≤ 9223372036854775807) ∧ (-9223372036854775808 ≤ s.b ∧ s.b ≤ 9223372036854775807) := by
  obtain ⟨y0, y1, y2, y3, n, rfl, hl, h0, h1, h2, h3⟩ := Go.Joins.trod_struct4 Tryz.underlying29 h
  have hw' : ∀ n ∈ DataW.weightsEach Tryz.prog [3, 3, 23, 27] [y0.1, y1.1, y2.1, y3.1], n ≤ reachBytes := by simpa [DataW.weights, Tryz.underlying29] using hw
  dsimp only at h0 h1 h2 h3
  rw [cells_int] at h0 h1
  rw [cells_keyT] at h2
  rw [cells_fracT] at h3
  rw [cells_stepsT] at hl
  obtain ⟨u, e0, hu⟩ := int_of_trod h0
  obtain ⟨b, e1, hb⟩ := int_of_trod h1
  obtain ⟨k, hk, e2⟩ := key_of_trod h2
  obtain ⟨A, c, a, B, e, d, e3, hx, hy⟩ := frac_of_trod h3 (fun m hm => hw' m (DataW.weights_mem_each (j := 3) rfl rfl m hm))
  refine ⟨⟨u, b, k, A, c, a, B, e, d⟩, ?_, ⟨hk, hx, hy⟩, hu, hb⟩
  match cs, hl with
  | c0 :: c1 :: r, hl =>
    simp at e0 e1
    have hr : r.length = 18 := by simpa using hl
    have a2 : List.take 16 r = cellsB k := by simpa using e2
    have a3 : List.drop 16 r = [.slice A a.length c, .slice B d.length e] := by
      rw [← e3]
      have e5 : List.drop (1 + 1 + 16) (c0 :: c1 :: r) = List.drop 16 r := rfl
      first
        | (rw [e5, List.take_of_length_le (by simp; omega)])
        | (simp only [List.drop_succ_cons, List.drop_zero, Nat.reduceAdd]; rw [List.take_of_length_le (by simp; omega)])
    rw [e0, e1, ← List.take_append_drop 16 r, a2, a3]
    rfl
set_option maxRecDepth 100000 in
theorem open_steps {H : Type} {enc : TypeId × Value → H} {W : World} {b0 : Nat} {v : Value} {d : DataW H} {ps : List MemPlace} (hval : Value.okWide Tryz.prog W .any b0 29 v) (hd : DataW.Trod enc Tryz.prog W 0 (fun _ => true) true 29 v d ps)
    (hw : ∀ n ∈ d.weights Tryz.prog 29, n ≤ reachBytes) : ∃ s : StV, v = .agg s.cs.toArray ∧ StOK W s ∧ (-9223372036854775808 ≤ s.u ∧ s.u ≤ 9223372036854775807) ∧ (-9223372036854775808 ≤ s.b ∧ s.b ≤ 9223372036854775807) := by
  obtain ⟨cs, rfl, hsz⟩ := okWide_struct Tryz.underlying29 hval
  obtain ⟨fuel, hf⟩ := hd
  obtain ⟨s, e, h1, h2, h3⟩ := steps_of_trod hf hw
  refine ⟨s, ?_, h1, h2, h3⟩
  rw [← e]
  simp [Value.cells]
end Go.Proofs.YtenpkmgbaajeeaaGreat
