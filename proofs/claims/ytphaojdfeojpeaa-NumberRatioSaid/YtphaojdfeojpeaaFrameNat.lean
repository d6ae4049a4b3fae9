/-
  What the frames of the laws share: numbers and fractions among the arguments, opened.
-/
import Derived.Test.YtphaojdfeojpeaaFrameAid
import Derived.Test.YtphaojdfeojpeaaNatMem
import Derived.SizedLaws
import Derived.Deep.Slices
import Derived.Deep.RegionHeld
namespace Go.Proofs.Ytphaojdfeojpeaa
open Go.ChangeShapes Go.WideShapes Go.ChangeAt Go.RowKit
set_option linter.unusedVariables false

theorem weights_of {H : Type} {P : Program} {ts : List TypeId} {ds : List (DataW H)} (h : (DataW.weightsEach P ts ds).all (· ≤ reachBytes) = true) {j : Nat} {t : TypeId} {d : DataW H} (ht : ts[j]? = some t) (hd : ds[j]? = some d) :
    ∀ n ∈ d.weights P t, n ≤ reachBytes := fun n hn => by
  simpa using List.all_eq_true.1 h _ (DataW.weights_mem_each ht hd n hn)
theorem bytes_u32 : Try.prog.bytesOf 85 = 4 := by kernel_rfl
theorem cells_u32 : Try.prog.cellsOf 85 = 1 := by kernel_rfl

theorem nat_of_trod {H : Type} {enc : TypeId × Value → H} {W : World} {fuel : Nat} {cs : List Value} {x : DataW H × List MemPlace} (h : DataW.trod enc Try.prog W 0 (fun _ => true) true fuel 41 cs = some x)
    (hw : ∀ n ∈ x.1.weights Try.prog 41, n ≤ reachBytes) : ∃ A c z, cs = [.slice A (List.length z) c] ∧ NR W A c z := by
  rcases open_ints Try.underlying41 Try.underlying85 cells_u32 h with ⟨rfl, rfl⟩ | ⟨a, len, cap, zs, rfl, hb, hle, hm, hzl, rfl, hc, hwf⟩
  · exact ⟨none, 0, [], rfl, NR.nil _⟩
  · simp only [if_true] at hzl
    have hcap : cap * 4 ≤ 140737488351232 := by
      have := hw ((len + (cap - len)) * 4) (by simp [DataW.weights, Try.underlying41, bytes_u32, lits, hzl, Nat.min_eq_left hle])
      simp only [reachBytes] at this
      omega
    have hlen : ((zs.take len).map Int.toNat).length = len := by simp [hzl, Nat.min_eq_left hle]
    refine ⟨some a, cap, (zs.take len).map Int.toNat, by rw [hlen], ?_⟩
    have hbd : ∀ i, i < len → (0 ≤ zs.getD i 0 ∧ zs.getD i 0 ≤ 4294967295) ∧ dg ((zs.take len).map Int.toNat) i = (zs.getD i 0).toNat := fun i hi => by
      refine ⟨by have := range_u32 hwf i; simpa [List.getD] using this, ?_⟩
      unfold dg
      simp [List.getD, hi, List.getElem?_eq_getElem (show i < zs.length by omega)]
    refine ⟨?_, by omega, ⟨by simpa [maxLen] using hm, by omega⟩, fun hne => ?_⟩
    · intro y hy
      obtain ⟨z, hz, rfl⟩ := List.mem_map.1 hy
      have := bounds_u32 (hwf z (List.mem_of_mem_take hz))
      omega
    · have h0 : 0 < len := by
        have := List.length_pos_iff.2 hne
        omega
      obtain ⟨b, off, rfl, hc2⟩ := ints_at hc (by omega)
      refine ⟨b, off, rfl, World.block_lt_of_cell? W _ (hc2 0 (by omega)), fun i hi => ?_⟩
      rw [hlen] at hi
      obtain ⟨h1, h2⟩ := hbd i hi
      rw [h2, hc2 i (by omega)]
      congr 2
      omega
set_option maxRecDepth 100000 in
theorem open_nat {H : Type} {enc : TypeId × Value → H} {W : World} {b0 : Nat} {v : Value} {d : DataW H} {ps : List MemPlace} (hval : Value.okWide Try.prog W .any b0 41 v) (hd : DataW.Trod enc Try.prog W 0 (fun _ => true) true 41 v d ps)
    (hw : ∀ n ∈ d.weights Try.prog 41, n ≤ reachBytes) : ∃ A c z, v = .slice A (List.length z) c ∧ NR W A c z := by
  obtain ⟨fuel, hf⟩ := hd
  obtain ⟨A, c, z, e, h⟩ := nat_of_trod hf hw
  refine ⟨A, c, z, ?_, h⟩
  obtain ⟨a, l, c', hv⟩ := okWide_slice Try.underlying41 hval
  subst hv
  simpa [Value.cells] using e
end Go.Proofs.Ytphaojdfeojpeaa
