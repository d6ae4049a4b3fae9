/-
  The reference's Derive, Number.
-/
import Derived.Test.YtinpiodfpnbllaaRefSpeck4
namespace Go.Proofs.Ytinpiodfpnbllaa
open Go.RowKit
set_option linter.unusedVariables false
attribute [local go_sem] run_storeCells_key

theorem refTag_zero (t : UInt8) (n : UInt64) (w : World) : Calls Try.prog 114 #[.int .u8 (t.toNat : Int), .int .u64 0, .int .u64 (n.toNat : Int)] w fun e w' => e = .returned (.agg (cellsB (tagS t 0 n)).toArray) ∧ Below w.heap.size w w' := refTag_any t 0 n w (by decide)
set_option maxHeartbeats 1000000 in
theorem refDerive_any (k : List UInt8) (t : UInt8) (n : UInt64) (w : World) (hk : k.length = 16) : Calls Try.prog 57 #[.agg (cellsB k).toArray, .int .u8 (t.toNat : Int), .int .u64 (n.toNat : Int)] w fun e w' => e = .returned (.agg (cellsB (derS k t n)).toArray) ∧ Below w.heap.size w w' := by
  have HK := Lib.hid hk
  have HZ := Lib.hid zero16
  have hkl : (cellsB k).length = 16 := by rw [cellsB_length, hk]
  have HE : Hid (derS k t n = encS k (tagS t 0 n)) := rfl
  have hl : (cellsB (encS k (tagS t 0 n))).length = 16 := rfl
  have hall := all16 (encS k (tagS t 0 n))
  clear hk
  go_enter Try.func57, Try.ntmps57
  go_wp2_with fail
  rw [HZ.out]
  go_region_with (first
    | (go_at_call 114; refine (refTag_zero t n _).mono ?_; rintro e w1 ⟨rfl, hb1⟩; have hck : ∀ j, w1.cell? ⟨w.heap.size, j, none⟩ = (cellsB k).toArray[j]? := fun j => ((blk_b0 w (cellsB k).toArray 23 _).drew.below' hb1).cell j)
    | (go_at_call 56; rw [fold16B k HK.out]; refine (refEncrypt_any k (tagS t 0 n) _ HK.out rfl).mono ?_; rintro e w2 ⟨rfl, hb2⟩; have hB2 := ((blk_b1 w (.cells (cellsB k).toArray 23) (cellsB zeroK).toArray 23).drew.below' hb1).below' hb2; have hr2 : (rowAt w2 (w.heap.size + 1)).size = 16 := by { rw [hB2.row]; rfl }; have hf2 := hB2.free; have HB2 := Lib.hid hB2; clear hB2))
  all_goals
    go_wp2_with fail
    exact bodyPost_ret (results_cell_row rfl _ _ (w.heap.size + 1) _ _ (0, 0) _ rfl (HB2.out.setRow (cellsB (encS k (tagS t 0 n))).toArray) under_key rfl (cellsB_size _ rfl)) rfl ⟨by rw [HE.out], below_setRow (((alloc2_bel w _ _).drew.trans (hb1.mono (alloc2_bel w _ _).size)).trans (hb2.mono (Nat.le_trans (alloc2_bel w _ _).size hb1.size))) (by omega) _⟩

end Go.Proofs.Ytinpiodfpnbllaa
