/-
  What is derived; a number below most: the program.
-/
import Derived.Test.YtenpkmgbaajeeaaSpeckEnc
import Derived.Deep.RegionHeld3
namespace Go.Proofs.Ytenpkmgbaajeeaa
open Go.RowKit Go.Shelf
set_option linter.unusedVariables false
attribute [local go_sem] run_storeCells_key

theorem tag_word (t : UInt8) (c : UInt64) : bits .or .u64 ((t.toNat : Int) * 72057594037927936) (c.toNat : Int) = ((t.toUInt64 <<< 56 ||| c).toNat : Int) := by
  rw [show (t.toNat : Int) * 72057594037927936 = IntKind.u64.wrap ((t.toNat : Int) * 72057594037927936) from by rw [IntKind.wrap_u64]; have := t.toNat_lt; omega]
  rw [show (t.toNat : Int) = (t.toUInt64.toNat : Int) from by rw [UInt8.toNat_toUInt64], u64_shl56, u64_or]
theorem all16 (l : List UInt8) : (cellsB l).all (·.oneCell') = true := List.all_eq_true.2 (cellsB_one _)

set_option maxHeartbeats 1000000 in
theorem blockOf_any (t : UInt8) (c n : UInt64) (w : World) : Calls Try.prog 76 #[.int .u8 (t.toNat : Int), .int .u64 (c.toNat : Int), .int .u64 (n.toNat : Int)] w fun e w' => e = .returned (.agg (cellsB (tagS t c n)).toArray) ∧ Below w.heap.size w w' := by
  have HZ := Lib.hid zero16
  have ht : (t.toNat : Int) ≤ 255 := by have := t.toNat_lt; omega
  have hc := u64_bd c
  have HT := Lib.hid (tag_word t c)
  have HE : Hid (tagS t c n = blk (t.toUInt64 <<< 56 ||| c, n)) := rfl
  obtain ⟨p, hp⟩ : ∃ p : W2, (t.toUInt64 <<< 56 ||| c, n) = p := ⟨_, rfl⟩
  have hl : (cellsB (blk p)).length = 16 := rfl
  have hall := all16 (blk p)
  rw [hp] at HE
  have HP : Hid ((t.toUInt64 <<< 56 ||| c) = p.1) := congrArg Prod.fst hp
  have HP2 : Hid (n = p.2) := congrArg Prod.snd hp
  clear hp
  go_enter Try.func76, Try.ntmps76
  go_wp2_with (go_at_call 102; rw [HT.out, HP.out, HP2.out, HZ.out]; refine (block_any p _).mono ?_; rintro e w1 ⟨rfl, hb1⟩; have hB1 := (Blk.new w 32 (cellsB zeroK).toArray).below' hb1; have hr1 : (rowAt w1 w.heap.size).size = 16 := by { rw [hB1.row]; rfl }; have hf1 := hB1.free; have HB1 := Lib.hid hB1; clear hB1)
  exact bodyPost_ret (results_cell_row rfl _ _ w.heap.size _ _ (0, 0) _ rfl (HB1.out.setRow (cellsB (blk p)).toArray) under_key rfl (cellsB_size _ rfl)) rfl ⟨by rw [HE.out], below_setRow ((alloc_bel _ _).trans (hb1.mono (alloc_bel _ _).size)) (Nat.le_refl _) _⟩

theorem blockOf_zero (t : UInt8) (n : UInt64) (w : World) : Calls Try.prog 76 #[.int .u8 (t.toNat : Int), .int .u64 0, .int .u64 (n.toNat : Int)] w fun e w' => e = .returned (.agg (cellsB (tagS t 0 n)).toArray) ∧ Below w.heap.size w w' := blockOf_any t 0 n w
set_option maxHeartbeats 1000000 in
theorem Derive_any (k : List UInt8) (t : UInt8) (n : UInt64) (w : World) (hk : k.length = 16) : Calls Try.prog 53 #[.agg (cellsB k).toArray, .int .u8 (t.toNat : Int), .int .u64 (n.toNat : Int)] w fun e w' => e = .returned (.agg (cellsB (derS k t n)).toArray) ∧ Below w.heap.size w w' := by
  have HK := Lib.hid hk
  have HZ := Lib.hid zero16
  have hkl : (cellsB k).length = 16 := by rw [cellsB_length, hk]
  have HE : Hid (derS k t n = encS k (tagS t 0 n)) := rfl
  have hl : (cellsB (encS k (tagS t 0 n))).length = 16 := rfl
  have hall := all16 (encS k (tagS t 0 n))
  clear hk
  go_enter Try.func53, Try.ntmps53
  go_wp2_with fail
  rw [HZ.out]
  go_region_with (first
    | (go_at_call 76; refine (blockOf_zero t n _).mono ?_; rintro e w1 ⟨rfl, hb1⟩; have hck : ∀ j, w1.cell? ⟨w.heap.size, j, none⟩ = (cellsB k).toArray[j]? := fun j => ((blk_b0 w (cellsB k).toArray 32 _).drew.below' hb1).cell j)
    | (go_at_call 75; rw [fold16B k HK.out]; refine (Encrypt_any k (tagS t 0 n) _ HK.out rfl).mono ?_; rintro e w2 ⟨rfl, hb2⟩; have hB2 := ((blk_b1 w (.cells (cellsB k).toArray 32) (cellsB zeroK).toArray 32).drew.below' hb1).below' hb2; have hr2 : (rowAt w2 (w.heap.size + 1)).size = 16 := by { rw [hB2.row]; rfl }; have hf2 := hB2.free; have HB2 := Lib.hid hB2; clear hB2))
  all_goals
    go_wp2_with fail
    exact bodyPost_ret (results_cell_row rfl _ _ (w.heap.size + 1) _ _ (0, 0) _ rfl (HB2.out.setRow (cellsB (encS k (tagS t 0 n))).toArray) under_key rfl (cellsB_size _ rfl)) rfl ⟨by rw [HE.out], below_setRow (((alloc2_bel w _ _).drew.trans (hb1.mono (alloc2_bel w _ _).size)).trans (hb2.mono (Nat.le_trans (alloc2_bel w _ _).size hb1.size))) (by omega) _⟩

theorem numS_pos {k : List UInt8} {n most : UInt64} (h : most ≠ 0) : numS k n most = (wds (derS k 3 n)).1 % most := by rw [numS, if_neg h]
theorem numS_zero {k : List UInt8} {n : UInt64} : numS k n 0 = 0 := by rw [numS, if_pos rfl]
set_option maxHeartbeats 1000000 in
set_option maxRecDepth 100000 in
theorem Number_any (k : List UInt8) (n most : UInt64) (w : World) (hk : k.length = 16) : Calls Try.prog 54 #[.agg (cellsB k).toArray, .int .u64 (n.toNat : Int), .int .u64 (most.toNat : Int)] w fun e w' => e = .returned (.int .u64 ((numS k n most).toNat : Int)) ∧ Below w.heap.size w w' := by
  have HK := Lib.hid hk
  have hkl : (cellsB k).length = 16 := by rw [cellsB_length, hk]
  by_cases h0 : most = 0
  · subst h0
    have HS : Hid (numS k n 0 = 0) := numS_zero
    have e0 : ((0 : UInt64).toNat : Int) = 0 := rfl
    rw [e0]
    clear hk
    go_enter Try.func54, Try.ntmps54
    go_wp2_with fail
    go_ret
    exact ⟨by rw [HS.out]; rfl, alloc_bel _ _⟩
  · have HS : Hid (numS k n most = (wds (derS k 3 n)).1 % most) := numS_pos h0
    have hmn : most.toNat ≠ 0 := fun e => h0 (UInt64.toNat_inj.1 (e.trans rfl))
    have hm0 : (most.toNat : Int) ≠ 0 := by omega
    have hm1 : ((most.toNat : Int) == 0) = false := by rw [beq_eq_false_iff_ne]; exact hm0
    have hm2 : (most.toNat == 0) = false := by rw [beq_eq_false_iff_ne]; omega
    have hm3 : ¬ most.toNat = 0 := by omega
    have bm := u64_bd most
    have bx := u64_bd (wds (derS k 3 n)).1
    have HM2 : Hid (((wds (derS k 3 n)).1.toNat : Int) % (most.toNat : Int) = ((((wds (derS k 3 n)).1 % most).toNat : Nat) : Int)) := by
      unfold Hid; rw [UInt64.toNat_mod]; exact (Int.natCast_emod _ _).symm
    have HD : Hid (∀ W, Calls Try.prog 53 #[.agg (cellsB k).toArray, .int .u8 3, .int .u64 (n.toNat : Int)] W fun e w' => e = .returned (.agg (cellsB (derS k 3 n)).toArray) ∧ Below W.heap.size W w') := fun W => Derive_any k 3 n W hk
    obtain ⟨d, hd⟩ : ∃ d, derS k 3 n = d := ⟨_, rfl⟩
    have hdl : Hid (d.length = 16) := by rw [← hd]; rfl
    rw [hd] at HS HM2 HD bx
    have hfl : ∀ (x y : Int) W, (Instr.field 114 (.agg #[.int .u64 x, .int .u64 y]) 0).run Try.prog W = .ok (.int .u64 x) W := fun _ _ _ => by kernel_rfl
    clear hk h0 hd hmn hm0
    go_enter Try.func54, Try.ntmps54
    go_wp2_with (first
      | (go_at_call 53; rw [fold16B k HK.out]; refine (HD.out _).mono ?_; rintro e w1 ⟨rfl, hb1⟩)
      | (go_at_call 77; refine (wordsOf_any d _ hdl.out).mono ?_; rintro e w2 ⟨rfl, hb2⟩))
    go_ret
    exact ⟨ret_u64 (by rw [HS.out]; exact HM2.out), (alloc_bel _ _).trans ((hb1.trans (hb2.mono hb1.size)).mono (alloc_bel _ _).size)⟩
end Go.Proofs.Ytenpkmgbaajeeaa
