/-
  What the frames of the laws share: a recording, a key among the arguments, opened.
-/
import Derived.Test.YtinpiodfpnbllaaFrameMem
import Derived.Test.YtinpiodfpnbllaaRecKit
import Derived.Lib.SmallJoins
import Derived.Deep.Strs
namespace Go.Proofs.Ytinpiodfpnbllaa
open Go.ChangeShapes Go.WideShapes Go.ChangeAt Go.RowKit Go.Deep
set_option linter.unusedVariables false

theorem cells_key : Try.prog.cellsOf 23 = 16 := by kernel_rfl
theorem cells_recording : Try.prog.cellsOf 26 = 33 := by kernel_rfl
theorem cells_bytes : Try.prog.cellsOf 24 = 1 := by kernel_rfl

theorem okWide_array {P : Program} {w : World} {r : Reach} {base : Nat} {t e : TypeId} {v : Value} {n : Nat} (ht : P.underlying t = some (.array n e)) (h : Value.okWide P w r base t v) : ∃ cs, v = .agg cs ∧ cs.size = P.cellsOf t := by
  simp only [Value.okWide, ht] at h
  obtain ⟨cs, h1, h2, _⟩ := h
  exact ⟨cs, h1, h2⟩
set_option maxRecDepth 100000 in
theorem open_key {H : Type} {enc : TypeId × Value → H} {W : World} {b0 : Nat} {v : Value} {d : DataW H} {ps : List MemPlace} (hval : Value.okWide Try.prog W .any b0 23 v) (hd : DataW.Trod enc Try.prog W 0 (fun _ => true) true 23 v d ps) :
    ∃ k : List UInt8, v = .agg (cellsB k).toArray ∧ k.length = 16 := by
  obtain ⟨cs, rfl, hsz⟩ := okWide_array Try.underlying23 hval
  obtain ⟨fuel, hf⟩ := hd
  obtain ⟨k, hk, e⟩ := key_of_trod hf
  refine ⟨k, ?_, hk⟩
  rw [← e]
  simp [Value.cells]

/-- A recording, among cells. -/
theorem recording_of_trod {H : Type} {enc : TypeId × Value → H} {W : World} {fuel : Nat} {cs : List Value} {x : DataW H × List MemPlace} (h : DataW.trod enc Try.prog W 0 (fun _ => true) true fuel 26 cs = some x)
    (hw : ∀ n ∈ x.1.weights Try.prog 26, n ≤ reachBytes) : ∃ b c A m l, cs = recC b c A (List.length l) m ∧ b.length = 16 ∧ c.length = 16 ∧ BR W A m l := by
  obtain ⟨y0, y1, y2, n, rfl, hl, h0, h1, h2⟩ := trod_struct3 Try.underlying26 h
  have hw' : ∀ n ∈ DataW.weightsEach Try.prog [23, 23, 24] [y0.1, y1.1, y2.1], n ≤ reachBytes := by simpa [DataW.weights, Try.underlying26] using hw
  dsimp only at h0 h1 h2
  rw [cells_key] at h0 h1
  rw [cells_bytes] at h2
  rw [cells_recording] at hl
  obtain ⟨b, hb, e0⟩ := key_of_trod h0
  obtain ⟨c, hc, e1⟩ := key_of_trod h1
  obtain ⟨A, m, l, e2, hB⟩ := bytes_of_trod Try.underlying24 h2 (fun m hm => hw' m (DataW.weights_mem_each (j := 2) rfl rfl m hm))
  refine ⟨b, c, A, m, l, ?_, hb, hc, hB⟩
  rw [recC, ← e0, ← e1, ← e2, List.drop_zero]
  rw [show List.take 16 (List.drop 16 cs) ++ List.take 1 (List.drop 32 cs) = List.drop 16 cs from by
    rw [List.take_of_length_le (show (List.drop 32 cs).length ≤ 1 by simp; omega), show List.drop 32 cs = List.drop 16 (List.drop 16 cs) from by rw [List.drop_drop], List.take_append_drop], List.take_append_drop]
set_option maxRecDepth 100000 in
theorem open_recording {H : Type} {enc : TypeId × Value → H} {W : World} {b0 : Nat} {v : Value} {d : DataW H} {ps : List MemPlace} (hval : Value.okWide Try.prog W .any b0 26 v) (hd : DataW.Trod enc Try.prog W 0 (fun _ => true) true 26 v d ps)
    (hw : ∀ n ∈ d.weights Try.prog 26, n ≤ reachBytes) : ∃ b c A m l, v = .agg (recC b c A (List.length l) m).toArray ∧ b.length = 16 ∧ c.length = 16 ∧ BR W A m l := by
  obtain ⟨cs, rfl, hsz⟩ := okWide_struct Try.underlying26 hval
  obtain ⟨fuel, hf⟩ := hd
  obtain ⟨b, c, A, m, l, e, h1, h2, h3⟩ := recording_of_trod hf hw
  refine ⟨b, c, A, m, l, ?_, h1, h2, h3⟩
  rw [← e]
  simp [Value.cells]
end Go.Proofs.Ytinpiodfpnbllaa
