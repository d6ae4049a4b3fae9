/-
  What is derived; a number below most: the program.
-/
import Derived.Test.YtinpiodfpnbllaaSpeckEnc
import Derived.Deep.RegionHeld3
namespace Go.Proofs.Ytinpiodfpnbllaa
open Go.RowKit Go.Shelf
set_option linter.unusedVariables false
attribute [local go_sem] run_storeCells_key

theorem tag_word (t : UInt8) (c : UInt64) : bits .or .u64 ((t.toNat : Int) * 72057594037927936) (c.toNat : Int) = ((t.toUInt64 <<< 56 ||| c).toNat : Int) := by
  rw [show (t.toNat : Int) * 72057594037927936 = IntKind.u64.wrap ((t.toNat : Int) * 72057594037927936) from by rw [IntKind.wrap_u64]; have := t.toNat_lt; omega]
  rw [show (t.toNat : Int) = (t.toUInt64.toNat : Int) from by rw [UInt8.toNat_toUInt64], u64_shl56, u64_or]
theorem all16 (l : List UInt8) : (cellsB l).all (·.oneCell') = true := List.all_eq_true.2 (cellsB_one _)

set_option maxHeartbeats 1000000 in
theorem blockOf_any (t : UInt8) (c n : UInt64) (w : World) : Calls Try.prog 105 #[.int .u8 (t.toNat : Int), .int .u64 (c.toNat : Int), .int .u64 (n.toNat : Int)] w fun e w' => e = .returned (.agg (cellsB (tagS t c n)).toArray) ∧ Below w.heap.size w w' := by
  have HZ := Lib.hid zero16
  have ht : (t.toNat : Int) ≤ 255 := by have := t.toNat_lt; omega
  have hc := u64_bd c
  have HT := Lib.hid (tag_word t c)
  have HE : Hid (tagS t c n = blk (t.toUInt64 <<< 56 ||| c, n)) := rfl
  obtain ⟨p, hp⟩ : ∃ p : W2, (t.toUInt64 <<< 56 ||| c, n) = p := ⟨_, rfl⟩
  have hl : (cellsB (blk p)).length = 16 := rfl
  have hall := all16 (blk p)
  rw [hp] at HE
  have HP : Hid ((t.toUInt64 <<< 56 ||| c) = p.1) := congrArg Prod.fst hp
  have HP2 : Hid (n = p.2) := congrArg Prod.snd hp
  clear hp
  go_enter Try.func105, Try.ntmps105
  go_wp2_with (go_at_call 109; rw [HT.out, HP.out, HP2.out, HZ.out]; refine (block_any p _).mono ?_; rintro e w1 ⟨rfl, hb1⟩; have hB1 := (Blk.new w 23 (cellsB zeroK).toArray).below' hb1; have hr1 : (rowAt w1 w.heap.size).size = 16 := by { rw [hB1.row]; rfl }; have hf1 := hB1.free; have HB1 := Lib.hid hB1; clear hB1)
  exact bodyPost_ret (results_cell_row rfl _ _ w.heap.size _ _ (0, 0) _ rfl (HB1.out.setRow (cellsB (blk p)).toArray) under_key rfl (cellsB_size _ rfl)) rfl ⟨by rw [HE.out], below_setRow ((alloc_bel _ _).trans (hb1.mono (alloc_bel _ _).size)) (Nat.le_refl _) _⟩

theorem blockOf_zero (t : UInt8) (n : UInt64) (w : World) : Calls Try.prog 105 #[.int .u8 (t.toNat : Int), .int .u64 0, .int .u64 (n.toNat : Int)] w fun e w' => e = .returned (.agg (cellsB (tagS t 0 n)).toArray) ∧ Below w.heap.size w w' := blockOf_any t 0 n w
set_option maxHeartbeats 1000000 in
theorem Derive_any (k : List UInt8) (t : UInt8) (n : UInt64) (w : World) (hk : k.length = 16) : Calls Try.prog 110 #[.agg (cellsB k).toArray, .int .u8 (t.toNat : Int), .int .u64 (n.toNat : Int)] w fun e w' => e = .returned (.agg (cellsB (derS k t n)).toArray) ∧ Below w.heap.size w w' := by
  have HK := Lib.hid hk
  have HZ := Lib.hid zero16
  have hkl : (cellsB k).length = 16 := by rw [cellsB_length, hk]
  have HE : Hid (derS k t n = encS k (tagS t 0 n)) := rfl
  have hl : (cellsB (encS k (tagS t 0 n))).length = 16 := rfl
  have hall := all16 (encS k (tagS t 0 n))
  clear hk
  go_enter Try.func110, Try.ntmps110
  go_wp2_with fail
  rw [HZ.out]
  go_region_with (first
    | (go_at_call 105; refine (blockOf_zero t n _).mono ?_; rintro e w1 ⟨rfl, hb1⟩; have hck : ∀ j, w1.cell? ⟨w.heap.size, j, none⟩ = (cellsB k).toArray[j]? := fun j => ((blk_b0 w (cellsB k).toArray 23 _).drew.below' hb1).cell j)
    | (go_at_call 53; rw [fold16B k HK.out]; refine (Encrypt_any k (tagS t 0 n) _ HK.out rfl).mono ?_; rintro e w2 ⟨rfl, hb2⟩; have hB2 := ((blk_b1 w (.cells (cellsB k).toArray 23) (cellsB zeroK).toArray 23).drew.below' hb1).below' hb2; have hr2 : (rowAt w2 (w.heap.size + 1)).size = 16 := by { rw [hB2.row]; rfl }; have hf2 := hB2.free; have HB2 := Lib.hid hB2; clear hB2))
  all_goals
    go_wp2_with fail
    exact bodyPost_ret (results_cell_row rfl _ _ (w.heap.size + 1) _ _ (0, 0) _ rfl (HB2.out.setRow (cellsB (encS k (tagS t 0 n))).toArray) under_key rfl (cellsB_size _ rfl)) rfl ⟨by rw [HE.out], below_setRow (((alloc2_bel w _ _).drew.trans (hb1.mono (alloc2_bel w _ _).size)).trans (hb2.mono (Nat.le_trans (alloc2_bel w _ _).size hb1.size))) (by omega) _⟩

theorem numS_pos {k : List UInt8} {n most : UInt64} (h : most ≠ 0) : numS k n most = (wds (derS k 3 n)).1 % most := by rw [numS, if_neg h]
theorem numS_zero {k : List UInt8} {n : UInt64} : numS k n 0 = 0 := by rw [numS, if_pos rfl]
end Go.Proofs.Ytinpiodfpnbllaa
