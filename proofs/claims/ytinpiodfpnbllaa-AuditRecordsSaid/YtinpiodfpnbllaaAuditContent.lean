/-
  The content key of a recording: the program's.
-/
import Derived.Test.YtinpiodfpnbllaaRecKit
import Derived.Test.YtinpiodfpnbllaaSpeckDec
import Derived.Test.YtinpiodfpnbllaaAuditWords
import Derived.Test.YtinpiodfpnbllaaArrEq
import Derived.Laws.ResultCell
import Derived.Great.BuildSlice
namespace Go.Proofs.Ytinpiodfpnbllaa
open Go.RowKit
set_option linter.unusedVariables false
attribute [local go_sem] run_storeCells_key run_storeCells_new

set_option maxHeartbeats 1000000 in
set_option maxRecDepth 100000 in
theorem content_any (k x c : List UInt8) (A : Option Addr) (n cap : Nat) (w : World) (hk : k.length = 16) (hx : x.length = 16) (hc : c.length = 16) :
    Calls Try.prog 58 #[.agg (cellsB k).toArray, .agg (recC x c A n cap).toArray] w fun e w' => e = .returned (if chkS (decS k x) = c then .tuple #[.agg (cellsB (decS k x)).toArray, .int .i64 0] else .tuple #[.agg (cellsB zeroK).toArray, .int .i64 53]) ∧ Below w.heap.size w w' := by
  have HK := Lib.hid hk
  have HX := Lib.hid hx
  have HC := Lib.hid hc
  have HZ := Lib.hid zero16
  have b0 := alloc3_bel w (.cells (cellsB k).toArray 23) (.cells (recC x c A n cap).toArray 26) (.cells (cellsB zeroK).toArray 23)
  obtain ⟨d, hd⟩ : ∃ d, decS k x = d := ⟨_, rfl⟩
  have hdl : d.length = 16 := by rw [← hd]; rfl
  have HDD := Lib.hid hd
  have HDL := Lib.hid hdl
  have hdc : (cellsB d).length = 16 := by rw [cellsB_length, hdl]
  have hall := all16 d
  rw [hd]
  obtain ⟨q, hq⟩ : ∃ q, chkS d = q := ⟨_, rfl⟩
  have hql : q.length = 16 := by rw [← hq]; rfl
  have HCK : Hid (∀ W, Calls Try.prog 54 #[.agg (cellsB d).toArray] W fun e w' => e = .returned (.agg (cellsB q).toArray) ∧ Below W.heap.size W w') := fun W => by rw [← hq]; exact check_any d W hdl
  rw [hq]
  have HQL := Lib.hid hql
  clear hq hql
  clear hk hx hc hd hdl
  go_enter Try.func58, Try.ntmps58
  go_wp2_with (first
    | (refine wpList_load_row rfl 23 (.tmp 2) rfl w.heap.size rfl 23 (cellsB k).toArray (0, 0) _ (blk_a0 w _ _ _ _) under_key rfl (cellsB_size _ HK.out) ?_)
    | (refine wpList_load_mid rfl 23 (.tmp 8) rfl (w.heap.size + 1) 0 rfl (cellsB x) _ (rec_box (blk_a1 w _ (recC x c A n cap).toArray 26 _)) under_key rfl (key_info HX.out) ?_)
    | (go_at_call 120; refine (Decrypt_any k x _ HK.out HX.out).mono ?_; rintro e w1 ⟨rfl, hb1⟩; rw [HDD.out]))
  have b1 : Below w.heap.size w w1 := b0.trans (hb1.mono b0.size)
  obtain ⟨W4, hW4⟩ : ∃ W : World, W = w1.alloc (.cells (cellsB d).toArray 23) := ⟨_, rfl⟩
  have BD : Hid (Blk W4 w1.heap.size 23 (cellsB d).toArray) := by rw [hW4]; exact Blk.new _ _ _
  have BC : Hid (Blk W4 (w.heap.size + 1) 26 (recC x c A n cap).toArray) := by rw [hW4]; exact ((blk_a1 w _ (recC x c A n cap).toArray 26 _).below' hb1).alloc _
  have BR0 : Hid (Blk W4 (w.heap.size + 1 + 1) 23 (cellsB zeroK).toArray) := by rw [hW4]; rw [← HZ.out]; exact ((blk_a2 w _ _ _ _).below' hb1).alloc _
  have b4 : Below w.heap.size w W4 := by rw [hW4]; exact b1.alloc b1.size _
  rw [← hW4]
  clear hW4
  by_cases hqc : q = c
  · have HQC := Lib.hid hqc
    have hne : ∀ W, (binOp .neq 23 (.agg (cellsB q).toArray) (.agg (cellsB c).toArray)).run Try.prog W = .ok (.bool false) W := fun W => by rw [run_neq_keys W q c HQL.out HC.out, hqc]; simp
    clear hqc
    refine wp_region_wd (by kernel_rfl) (by kernel_rfl) ?_
    repeat (first
      | (go_big_quiet_want; refine quiet_load_as w1.heap.size rfl 23 (cellsB d).toArray (0, 0) _ (fun _ hw => by obtain ⟨z, rfl⟩ := hw; exact BD.out.below' z.h) under_key rfl (cellsB_size _ HDL.out) ?_; go_big_quiet_op; go_big_quiet_on)
      | (go_big_quiet_want; refine quiet_mid_as (w.heap.size + 1) 16 rfl (cellsB c) _ (fun _ hw => by obtain ⟨z, rfl⟩ := hw; exact rec_check (BC.out.below' z.h) HX.out) under_key rfl (key_info HC.out) ?_; go_big_quiet_op; go_big_quiet_on)
      | go_big_quiet_step ((go_at_call 54; exact Wd.call _ (HCK.out _))))
    refine wpQuiet_nil ?_
    intro _ hw'
    obtain ⟨xx, hw''⟩ := hw'
    subst hw''
    have B3 := BR0.out.below' xx.h
    have hr3 : (rowAt xx.w (w.heap.size + 1 + 1)).size = 16 := by rw [B3.row]; rfl
    have hf3 := B3.free
    have HB3 := Lib.hid B3
    have b5 := b4.trans (xx.h.mono b4.size)
    clear B3 hne
    go_wp2_with (refine wpList_load_row rfl 23 (.tmp 6) rfl w1.heap.size rfl 23 (cellsB d).toArray (0, 0) _ (BD.out.below' xx.h) under_key rfl (cellsB_size _ HDL.out) ?_)
    refine bodyPost_ret (v := .tuple #[.agg (cellsB d).toArray, .int .i64 0]) ?_ rfl ⟨rfl, below_setRow b5 (by omega) _⟩
    rw [results_cell_tmp Try.results58]
    simp [asAddr, Result.andThen, run_loadVar_row _ (w.heap.size + 1 + 1) _ _ _ (0, 0) _ (HB3.out.setRow (cellsB d).toArray) under_key rfl (cellsB_size _ HDL.out)]
  · have HQC := Lib.hid hqc
    have hne : ∀ W, (binOp .neq 23 (.agg (cellsB q).toArray) (.agg (cellsB c).toArray)).run Try.prog W = .ok (.bool true) W := fun W => by rw [run_neq_keys W q c HQL.out HC.out]; simp [hqc]
    clear hqc
    refine wp_region_wd (by kernel_rfl) (by kernel_rfl) ?_
    repeat (first
      | (go_big_quiet_want; refine quiet_load_as w1.heap.size rfl 23 (cellsB d).toArray (0, 0) _ (fun _ hw => by obtain ⟨z, rfl⟩ := hw; exact BD.out.below' z.h) under_key rfl (cellsB_size _ HDL.out) ?_; go_big_quiet_op; go_big_quiet_on)
      | (go_big_quiet_want; refine quiet_mid_as (w.heap.size + 1) 16 rfl (cellsB c) _ (fun _ hw => by obtain ⟨z, rfl⟩ := hw; exact rec_check (BC.out.below' z.h) HX.out) under_key rfl (key_info HC.out) ?_; go_big_quiet_op; go_big_quiet_on)
      | go_big_quiet_step ((go_at_call 54; exact Wd.call _ (HCK.out _))))
    refine wpQuiet_nil ?_
    intro _ hw'
    obtain ⟨xx, hw''⟩ := hw'
    subst hw''
    have B3 := BR0.out.below' xx.h
    have hr3 : (rowAt xx.w (w.heap.size + 1 + 1)).size = 16 := by rw [B3.row]; rfl
    have hf3 := B3.free
    have HB3 := Lib.hid B3
    have b5 := b4.trans (xx.h.mono b4.size)
    clear B3 hne
    have hlz : (cellsB zeroK).length = 16 := rfl
    have haz := all16 zeroK
    go_wp2_with (refine wpList_buildTo rfl 23 #[] rfl (some 16) rfl (cellsB zeroK).toArray (by kernel_rfl) ?_)
    refine bodyPost_ret (v := .tuple #[.agg (cellsB zeroK).toArray, .int .i64 53]) ?_ rfl ⟨by first | rfl | rw [if_neg HQC.out], below_setRow b5 (by omega) _⟩
    rw [results_cell_tmp Try.results58]
    simp [asAddr, Result.andThen, run_loadVar_row _ (w.heap.size + 1 + 1) _ _ _ (0, 0) _ (HB3.out.setRow (cellsB zeroK).toArray) under_key rfl (cellsB_size _ rfl)]
end Go.Proofs.Ytinpiodfpnbllaa
