/-
  The reference's Xor.
-/
import Derived.Test.YtinpiodfpnbllaaSpeckDer
import Derived.Test.YtinpiodfpnbllaaStream
namespace Go.Proofs.Ytinpiodfpnbllaa
open Go.RowKit
set_option linter.unusedVariables false
attribute [local go_sem] run_storeCells_key

/-- Two blocks, xor. -/
def xorS (a b : List UInt8) : List UInt8 := (List.range 16).map fun j => a.getD j 0 ^^^ b.getD j 0
def xoP (a b : List UInt8) (i : Nat) : List UInt8 := (List.range 16).map fun j => if j < i then a.getD j 0 ^^^ b.getD j 0 else a.getD j 0
theorem xorS_length (a b : List UInt8) : (xorS a b).length = 16 := by simp [xorS]
theorem xoP_length (a b : List UInt8) (i : Nat) : (xoP a b i).length = 16 := by simp [xoP]
theorem xoP_zero {a : List UInt8} (b : List UInt8) (h : a.length = 16) : xoP a b 0 = a := by
  refine List.ext_getElem (by simp [xoP, h]) fun i h1 h2 => ?_
  simp [xoP, List.getD, List.getElem?_eq_getElem h2]
theorem xoP_fin (a b : List UInt8) : xoP a b 16 = xorS a b := by
  refine List.ext_getElem (by simp [xoP, xorS]) fun i h1 h2 => ?_
  have : i < 16 := by simpa [xoP] using h1
  simp [xoP, xorS, this]
theorem xoP_at (a b : List UInt8) {i : Nat} (hi : i < 16) : (xoP a b i).getD i 0 = a.getD i 0 := by
  simp [xoP, List.getD, List.getElem?_range hi]
theorem xoP_set {a b : List UInt8} {i : Nat} (hi : i < 16) : (xoP a b i).set i (a.getD i 0 ^^^ b.getD i 0) = xoP a b (i + 1) := by
  refine List.ext_getElem (by simp [xoP]) fun j h1 h2 => ?_
  simp only [xoP, List.getElem_set, List.getElem_map, List.getElem_range]
  by_cases e : i = j
  · subst e; simp
  · rw [if_neg e]
    have : (j < i) ↔ (j < i + 1) := by omega
    simp [this]

set_option maxHeartbeats 1000000 in
set_option maxRecDepth 100000 in
theorem refXor_any (a b : List UInt8) (w : World) (ha : a.length = 16) (hb : b.length = 16) : Calls Try.prog 112 #[.agg (cellsB a).toArray, .agg (cellsB b).toArray] w fun e w' => e = .returned (.agg (cellsB (xorS a b)).toArray) ∧ Below w.heap.size w w' := by
  have HA := Lib.hid ha
  have HB := Lib.hid hb
  have HZ := Lib.hid zero16
  clear ha hb
  go_enter Try.func112, Try.ntmps112
  go_wp2_with fail
  rw [HZ.out]
  go_loopw [5] (fun vi wr => ∃ i : Nat, i ≤ 16 ∧ vi = .int .i64 (i : Int) ∧ Hid (Blk wr w.heap.size 23 (cellsB (xoP a b i)).toArray) ∧ Hid (Blk wr (w.heap.size + 1) 23 (cellsB b).toArray) ∧ Hid (Blk wr (w.heap.size + 1 + 1) 23 (cellsB zeroK).toArray) ∧ Below w.heap.size w wr) (fun vi _ => 16 - (intOf vi).toNat)
  case atStart => exact ⟨0, by omega, rfl, by rw [xoP_zero b HA.out]; exact blk_a0 _ _ _ _ _, blk_a1 _ _ _ _ _, blk_a2 _ _ _ _ _, alloc3_bel _ _ _ _⟩
  case round =>
    obtain ⟨i, hi, rfl, HB1, HB2, HB3, hbel⟩ := hrel
    by_cases hlt : i < 16
    · have hii : (i : Int) < 16 := by omega
      have c0 := HB1.out.cell i
      rw [bytes_get _ i (by rw [xoP_length]; exact hlt), xoP_at a b hlt] at c0
      have c1 := HB2.out.cell i
      rw [bytes_get _ i (by rw [HB.out]; exact hlt)] at c1
      have f0 := HB1.out.frozen i
      have HSET := Lib.hid (xoP_set (a := a) (b := b) hlt)
      obtain ⟨x, hx⟩ : ∃ x, a.getD i 0 = x := ⟨_, rfl⟩
      obtain ⟨y, hy⟩ : ∃ y, b.getD i 0 = y := ⟨_, rfl⟩
      rw [hx, hy] at HSET
      rw [hx] at c0
      rw [hy] at c1
      have HX : Hid (bits .xor .u8 (x.toNat : Int) (y.toNat : Int) = ((x ^^^ y).toNat : Int)) := xor_u8 _ _
      clear hx hy hlt
      go_wp2_with fail
      go_region
      all_goals
        rw [HX.out]
        go_wp2_with fail
        go_roundw
      all_goals first
        | exact ⟨i + 1, by omega, by go_num, by
            have h := HB1.out.drew.set_ i (.int .u8 ((x ^^^ y).toNat : Int))
            rw [bytes_set, HSET.out] at h
            exact h, HB2.out.drew.far (p := ⟨w.heap.size, i, none⟩) (by simp) _, HB3.out.drew.far (p := ⟨w.heap.size, i, none⟩) (by simp; omega) _, hbel.drew.setCell (p := ⟨w.heap.size, i, none⟩) (by simp) _⟩
        | (simp [intOf]; omega)
    · obtain rfl : i = 16 := by omega
      have B1 : Blk wr w.heap.size 23 (cellsB (xorS a b)).toArray := by rw [← xoP_fin]; exact HB1.out
      have HL : Hid ((xorS a b).length = 16) := xorS_length a b
      obtain ⟨r, hr⟩ : ∃ r, xorS a b = r := ⟨_, rfl⟩
      rw [hr] at B1 HL
      have HRX := Lib.hid hr
      have hl : (cellsB r).length = 16 := by rw [cellsB_length, HL.out]
      have hall := all16 r
      have hr3 : (rowAt wr (w.heap.size + 1 + 1)).size = 16 := by rw [HB3.out.row]; rfl
      have hf3 := HB3.out.free
      have HR1 := Lib.hid B1
      clear hr B1
      go_wp2_with (refine wpList_load_row rfl 23 (.tmp 2) rfl w.heap.size rfl 23 (cellsB r).toArray (0, 0) _ HR1.out under_key rfl (cellsB_size _ HL.out) ?_)
      exact bodyPost_ret (results_cell_row rfl _ _ (w.heap.size + 1 + 1) _ _ (0, 0) _ rfl (HB3.out.setRow (cellsB r).toArray) under_key rfl (cellsB_size _ HL.out)) rfl ⟨by rw [HRX.out], below_setRow hbel (by omega) _⟩
end Go.Proofs.Ytinpiodfpnbllaa
