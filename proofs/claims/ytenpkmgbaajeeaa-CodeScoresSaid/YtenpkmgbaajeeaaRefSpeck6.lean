/-
  The reference's Number.
-/
import Derived.Test.YtenpkmgbaajeeaaRefSpeck5
namespace Go.Proofs.Ytenpkmgbaajeeaa
open Go.RowKit
set_option linter.unusedVariables false
attribute [local go_sem] run_storeCells_key run_storeCells_new

set_option maxHeartbeats 1000000 in
set_option maxRecDepth 100000 in
theorem refNumber_any (k : List UInt8) (n most : UInt64) (w : World) (hk : k.length = 16) : Calls Try.prog 56 #[.agg (cellsB k).toArray, .int .u64 (n.toNat : Int), .int .u64 (most.toNat : Int)] w fun e w' => e = .returned (.int .u64 ((numS k n most).toNat : Int)) ∧ Below w.heap.size w w' := by
  have HK := Lib.hid hk
  have hkl : (cellsB k).length = 16 := by rw [cellsB_length, hk]
  by_cases h0 : most = 0
  · subst h0
    have HS : Hid (numS k n 0 = 0) := numS_zero
    have e0 : ((0 : UInt64).toNat : Int) = 0 := rfl
    rw [e0]
    clear hk
    go_enter Try.func56, Try.ntmps56
    go_wp2_with fail
    go_ret
    exact ⟨by rw [HS.out]; rfl, alloc_bel _ _⟩
  · have HS : Hid (numS k n most = (wds (derS k 3 n)).1 % most) := numS_pos h0
    have hmn : most.toNat ≠ 0 := fun e => h0 (UInt64.toNat_inj.1 (e.trans rfl))
    have hm0 : (most.toNat : Int) ≠ 0 := by omega
    have hm1 : ((most.toNat : Int) == 0) = false := by rw [beq_eq_false_iff_ne]; exact hm0
    have hm2 : (most.toNat == 0) = false := by rw [beq_eq_false_iff_ne]; omega
    have hm3 : ¬ most.toNat = 0 := by omega
    have bm := u64_bd most
    have bx := u64_bd (wds (derS k 3 n)).1
    have HM2 : Hid (((wds (derS k 3 n)).1.toNat : Int) % (most.toNat : Int) = ((((wds (derS k 3 n)).1 % most).toNat : Nat) : Int)) := by
      unfold Hid; rw [UInt64.toNat_mod]; exact (Int.natCast_emod _ _).symm
    have HD : Hid (∀ W, Calls Try.prog 55 #[.agg (cellsB k).toArray, .int .u8 3, .int .u64 (n.toNat : Int)] W fun e w' => e = .returned (.agg (cellsB (derS k 3 n)).toArray) ∧ Below W.heap.size W w') := fun W => refDerive_any k 3 n W hk
    obtain ⟨d, hd⟩ : ∃ d, derS k 3 n = d := ⟨_, rfl⟩
    have hdl : Hid (d.length = 16) := by rw [← hd]; rfl
    rw [hd] at HS HM2 HD bx
    have hld : (cellsB d).length = 16 := by rw [cellsB_length]; exact hdl.out
    have hall := all16 d
    have HV : Hid (∀ W, Blk W W.heap.size 32 (cellsB d).toArray → True) := fun _ _ => trivial
    have HW1 : Hid (wd ((d.drop 0).take 8) = (wds d).1) := rfl
    have L1 : Hid (((d.drop 0).take 8).length = 8) := by unfold Hid; have := hdl.out; simp; omega
    clear hk h0 hd hmn hm0 HV
    go_enter Try.func56, Try.ntmps56
    go_wp2_with (first
      | (go_at_call 55; rw [fold16B k HK.out]; refine (HD.out _).mono ?_; rintro e w1 ⟨rfl, hb1⟩)
      | (go_at_call 80; (with_reducible refine (refValue_any _ _ ((d.drop 0).take 8) _ L1.out ((Blk.new w1 32 (cellsB d).toArray).br 0 8 16 (by have := hdl.out; omega) (by omega) (by omega))).mono ?_); rintro e w2 ⟨rfl, rfl⟩; rw [HW1.out]))
    go_ret
    exact ⟨ret_u64 (by rw [HS.out]; exact HM2.out), (((alloc_bel w _).trans (hb1.mono (alloc_bel w (.cells (cellsB k).toArray 32)).size)).alloc (Nat.le_trans (alloc_bel w (.cells (cellsB k).toArray 32)).size hb1.size) _)⟩
end Go.Proofs.Ytenpkmgbaajeeaa
