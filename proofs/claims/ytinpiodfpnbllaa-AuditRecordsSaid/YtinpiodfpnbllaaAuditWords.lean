/-
  The check of a content key: the program's.
-/
import Derived.Test.YtinpiodfpnbllaaSpeckDer
namespace Go.Proofs.Ytinpiodfpnbllaa
open Go.RowKit
set_option linter.unusedVariables false
attribute [local go_sem] run_storeCells_key

/-- The check of a content key. -/
def chkS (k : List UInt8) : List UInt8 := derS k 53 0
set_option maxHeartbeats 1000000 in
set_option maxRecDepth 100000 in
theorem check_any (k : List UInt8) (w : World) (hk : k.length = 16) : Calls Try.prog 54 #[.agg (cellsB k).toArray] w fun e w' => e = .returned (.agg (cellsB (chkS k)).toArray) ∧ Below w.heap.size w w' := by
  have HK := Lib.hid hk
  have hkl : (cellsB k).length = 16 := by rw [cellsB_length, hk]
  have HZ := Lib.hid zero16
  have HD : Hid (∀ W, Calls Try.prog 110 #[.agg (cellsB k).toArray, .int .u8 53, .int .u64 0] W fun e w' => e = .returned (.agg (cellsB (chkS k)).toArray) ∧ Below W.heap.size W w') := fun W => Derive_any k 53 0 W hk
  have hl : (cellsB (chkS k)).length = 16 := rfl
  have hall := all16 (chkS k)
  clear hk
  go_enter Try.func54, Try.ntmps54
  go_wp2_with (go_at_call 110; rw [fold16B k HK.out, HZ.out]; refine (HD.out _).mono ?_; rintro e w1 ⟨rfl, hb1⟩; have hB1 := (blk_b1 w (.cells (cellsB k).toArray 23) (cellsB zeroK).toArray 23).below' hb1; have hr1 : (rowAt w1 (w.heap.size + 1)).size = 16 := by { rw [hB1.row]; rfl }; have hf1 := hB1.free; have HB1 := Lib.hid hB1; clear hB1)
  exact bodyPost_ret (results_cell_row rfl _ _ (w.heap.size + 1) _ _ (0, 0) _ rfl (HB1.out.setRow (cellsB (chkS k)).toArray) under_key rfl (cellsB_size _ rfl)) rfl ⟨rfl, below_setRow ((alloc2_bel w _ _).trans (hb1.mono (alloc2_bel w _ _).size)) (by omega) _⟩
end Go.Proofs.Ytinpiodfpnbllaa
