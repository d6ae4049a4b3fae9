/-
  The reference's portions.
-/
import Derived.Test.YtinpiodfpnbllaaRefSpeck5
import Derived.Test.YtinpiodfpnbllaaStream
namespace Go.Proofs.Ytinpiodfpnbllaa
open Go.RowKit
set_option linter.unusedVariables false
attribute [local go_sem] run_storeCells_key

/-- Where a cut 's[n:]' of bytes leads. -/
def dropP (A : Option Addr) (n c : Nat) : Option Addr := if c = n then A else A.map fun x => x.add n
theorem slice_bytes_from (W : World) (A : Option Addr) (m c n : Nat) (h : n ≤ m) :
    (Instr.slice 24 (.slice A m c) (some (.int .i64 (n : Int))) none none).run Try.prog W = .ok (.slice (dropP A n c) (m - n) (c - n)) W := by
  have e : Try.prog.elem 24 = 5 := by kernel_rfl
  rw [run_slice_l (P := Try.prog) (w := W) 24 A m c (by rw [e]; exact Try.underlying24) .i64 n (by omega) (by omega), e, Try.sizeOf5 W]
  simp [Result.andThen, sliced, dropP]
theorem BR.drop {w : World} {A : Option Addr} {c : Nat} {l : List UInt8} (h : BR w A c l) (n : Nat) (hn : n ≤ l.length) : BR w (dropP A n c) (c - n) (l.drop n) := by
  have h1 := Rd.le h
  have h2 := Rd.cap h
  have h3 := Rd.len h
  refine ⟨⟨by rw [cellsB_length, Nat.mul_one], by rw [List.length_drop]; omega, by omega, by rw [List.length_drop]; omega⟩, fun hne => ?_⟩
  rw [List.length_drop] at hne
  obtain ⟨b, off, e, hb, hc⟩ := h.2 (by omega)
  refine ⟨b, off + n, by rw [dropP, if_neg (by omega), e]; simp [Addr.add], hb, fun j v hv => ?_⟩
  rw [Nat.add_assoc]
  refine hc (n + j) v ?_
  rw [← hv]
  simp [cellsB, List.getElem?_drop]

theorem portions_any (A : Option Addr) (c L : Nat) (w : World) (hL : (L : Int) ≤ 140737488351232) : Calls Try.prog 111 #[.slice A L c] w fun e w' => e = .returned (.int .i64 (((L + 15) / 16 : Nat) : Int)) ∧ w = w' := by
  go_enter Try.func111, Try.ntmps111
  go_wp2_with fail
  go_ret
  exact ⟨by simp, rfl⟩

set_option maxHeartbeats 1000000 in
set_option maxRecDepth 100000 in
theorem portion_any (A : Option Addr) (c : Nat) (b : List UInt8) (i : Nat) (w : World) {L : Nat} (hL : b.length = L) (h : BR w A c b) (hi : 16 * i ≤ L) :
    Calls Try.prog 113 #[.slice A L c, .int .i64 (i : Int)] w fun e w' => e = .returned (.agg (cellsB (padK (b.drop (16 * i)))).toArray) ∧ Below w.heap.size w w' := by
  have hl0 : (L : Int) ≤ 140737488351232 := by have := h.len; omega
  have HZ := Lib.hid zero16
  have hi0 : (i : Int) * 16 ≤ 140737488351232 := by omega
  have hi1 : 16 * (i : Int) ≤ 140737488351232 := by omega
  have hi2 : (i : Int) ≤ 140737488351232 := by omega
  have hsl : ∀ W, (Instr.slice 24 (.slice A L c) (some (.int .i64 (16 * (i : Int)))) none none).run Try.prog W = .ok (.slice (dropP A (16 * i) c) (L - 16 * i) (c - 16 * i)) W := fun W => by
    have := slice_bytes_from W A L c (16 * i) hi
    rw [Int.natCast_mul] at this
    exact this
  have H := Lib.hid (h.drop (16 * i) (by omega))
  have HN : Hid ((b.drop (16 * i)).length = L - 16 * i) := by unfold Hid; rw [List.length_drop, hL]
  have hl : (cellsB (padK (b.drop (16 * i)))).length = 16 := by rw [cellsB_length]; rfl
  have hall := all16 (padK (b.drop (16 * i)))
  obtain ⟨d, hd⟩ : ∃ d, b.drop (16 * i) = d := ⟨_, rfl⟩
  rw [hd] at H HN hl hall ⊢
  clear h hL hi hd
  go_enter Try.func113, Try.ntmps113
  go_wp2_with (go_at_call 145; refine (refKey_any _ _ d _ HN.out (H.out.below (alloc_bel _ _))).mono ?_; rintro e w1 ⟨rfl, hb1⟩; rw [HZ.out] at hb1; have hB1 := (Blk.new w 23 (cellsB zeroK).toArray).below' hb1; have hr1 : (rowAt w1 w.heap.size).size = 16 := by { rw [hB1.row]; rfl }; have hf1 := hB1.free; have HB1 := Lib.hid hB1; clear hB1)
  exact bodyPost_ret (results_cell_row rfl _ _ w.heap.size _ _ (0, 0) _ rfl (HB1.out.setRow (cellsB (padK d)).toArray) under_key rfl (cellsB_size _ (by simpa [cellsB] using hl))) rfl ⟨rfl, below_setRow ((alloc_bel w _).trans (hb1.mono (alloc_bel w (.cells (cellsB zeroK).toArray 23)).size)) (Nat.le_refl _) _⟩
end Go.Proofs.Ytinpiodfpnbllaa
