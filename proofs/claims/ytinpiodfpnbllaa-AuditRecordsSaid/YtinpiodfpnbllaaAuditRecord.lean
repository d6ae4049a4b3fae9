/-
  A recording of some data: the program's.
-/
import Derived.Test.YtinpiodfpnbllaaRecBuild
import Derived.Test.YtinpiodfpnbllaaAuditWords
import Derived.Test.YtinpiodfpnbllaaSpeckEnc
import Derived.Laws.ResultCell
namespace Go.Proofs.Ytinpiodfpnbllaa
open Go.RowKit
set_option linter.unusedVariables false
attribute [local go_sem] run_storeCells_rec

set_option maxHeartbeats 2000000 in
set_option maxRecDepth 100000 in
theorem Record_any (k y : List UInt8) (A : Option Addr) (c : Nat) (b : List UInt8) (w : World) {L : Nat} (hL : b.length = L) (h : BR w A c b) (hk : k.length = 16) (hy : y.length = 16) :
    Calls Try.prog 8 #[.agg (cellsB k).toArray, .agg (cellsB y).toArray, .slice A L c] w fun e w' => RecErr w.heap.size (recS k y b) e w' ∧ Below w.heap.size w w' := by
  have HL := Lib.hid hL
  have H := Lib.hid h
  have HK := Lib.hid hk
  have HY := Lib.hid hy
  have HZ := Lib.hid zero33
  have b0 := alloc3_bel w (.cells (cellsB k).toArray 23) (.cells (cellsB y).toArray 23) (.cells (recC zeroK zeroK none 0 0).toArray 26)
  have hst := fun W => Stream_any y 0 A c b W hL
  have HST := Lib.hid hst
  by_cases hbig : 16384 < L
  · have HS : Hid (recS k y b = noRec 4) := by unfold Hid recS; rw [if_pos (by omega)]
    have HR : Hid (strR y 0 b = ([], 4)) := by unfold Hid strR; rw [if_pos (by omega)]
    have hlz : (recC zeroK zeroK none 0 0).length = 33 := rfl
    have haz := recC_all zeroK zeroK none 0 0
    clear hL h hk hy hst hbig
    go_enter Try.func8, Try.ntmps8
    go_wp2_with (first
      | (refine wpList_load_row rfl 23 (.tmp 4) rfl (w.heap.size + 1) rfl 23 (cellsB y).toArray (0, 0) _ (blk_a1 w _ _ _ _) under_key rfl (cellsB_size _ HY.out) ?_)
      | (go_at_call 52; rw [HZ.out]; refine (HST.out _ (H.out.below b0) HY.out).mono ?_; rintro e w1 ⟨⟨A1, c1, rfl, ho1⟩, hb1⟩; rw [HR.out] at ho1 ⊢; have B2 := (blk_a2 w _ _ _ _).below' hb1; have hr2 : (rowAt w1 (w.heap.size + 1 + 1)).size = 33 := by { rw [B2.row]; rfl }; have hf2 := B2.free; have HB2 := Lib.hid B2; clear B2 ho1)
      | (refine wpList_buildTo rfl 26 #[] rfl (some 18) rfl (recC zeroK zeroK none 0 0).toArray (by kernel_rfl) ?_))
    refine bodyPost_ret (v := .tuple #[.agg (recC zeroK zeroK none 0 0).toArray, .int .i64 4]) ?_ rfl ⟨⟨none, 0, by rw [HS.out]; rfl, by rw [HS.out]; exact OB.nil' _ _⟩, below_setRow (b0.trans (hb1.mono b0.size)) (by omega) _⟩
    rw [results_cell_tmp Try.results8]
    simp [asAddr, Result.andThen, run_loadVar_row _ (w.heap.size + 1 + 1) _ _ _ (0, 0) _ (HB2.out.setRow (recC zeroK zeroK none 0 0).toArray) Try.underlying26 rfl (rec_info none 0 0 zeroK_length zeroK_length)]
  · have HS : Hid (recS k y b = ⟨encS k y, chkS y, streamS y 0 b, 0⟩) := by unfold Hid recS; rw [if_neg (by omega)]
    have HEN : Hid (∀ W, Calls Try.prog 53 #[.agg (cellsB k).toArray, .agg (cellsB y).toArray] W fun e w' => e = .returned (.agg (cellsB (encS k y)).toArray) ∧ Below W.heap.size W w') := fun W => Encrypt_any k y W hk hy
    have HCK : Hid (∀ W, Calls Try.prog 54 #[.agg (cellsB y).toArray] W fun e w' => e = .returned (.agg (cellsB (chkS y)).toArray) ∧ Below W.heap.size W w') := fun W => check_any y W hy
    have HEL : Hid ((encS k y).length = 16) := rfl
    have HQL : Hid ((chkS y).length = 16) := rfl
    have HR : Hid (strR y 0 b = (streamS y 0 b, 0)) := by unfold Hid strR; rw [if_neg (by omega)]
    have HSL : Hid ((streamS y 0 b).length = L) := by unfold Hid; rw [streamS_length, hL]
    generalize encS k y = E at HS HEN HEL
    generalize chkS y = q at HS HCK HQL
    generalize streamS y 0 b = sb at HS HR HSL
    clear hL h hk hy hst hbig
    go_enter Try.func8, Try.ntmps8
    go_wp2_with (first
      | (refine wpList_load_row rfl 23 (.tmp 4) rfl (w.heap.size + 1) rfl 23 (cellsB y).toArray (0, 0) _ (blk_a1 w _ _ _ _) under_key rfl (cellsB_size _ HY.out) ?_)
      | (go_at_call 52; rw [HZ.out]; refine (HST.out _ (H.out.below b0) HY.out).mono ?_; rintro e w1 ⟨⟨A1, c1, rfl, ho1⟩, hb1⟩; rw [HR.out] at ho1 ⊢; rw [HSL.out]; have B0 := Lib.hid ((blk_a0 w (cellsB k).toArray 23 (.cells (cellsB y).toArray 23) (.cells (recC zeroK zeroK none 0 0).toArray 26)).below' hb1); have B1 := Lib.hid ((blk_a1 w (.cells (cellsB k).toArray 23) (cellsB y).toArray 23 (.cells (recC zeroK zeroK none 0 0).toArray 26)).below' hb1); have B2 := Lib.hid ((blk_a2 w (.cells (cellsB k).toArray 23) (.cells (cellsB y).toArray 23) (recC zeroK zeroK none 0 0).toArray 26).below' hb1); have HO1 := Lib.hid ho1; clear ho1))
    have b1 : Below w.heap.size w w1 := b0.trans (hb1.mono b0.size)
    refine wp_region_noPanic ?_
    refine wp_region_held_drew (S := fun w' => w'.rangeAt w.heap.size 0 (cellsB k) ∧ w'.rangeAt (w.heap.size + 1) 0 (cellsB y)) (by kernel_rfl) ⟨B0.out.drew.range, B1.out.drew.range⟩ (fun hS => ?_)
    refine hd_load 0 w.heap.size 0 (cellsB k) _ _ rfl rfl rfl (by kernel_rfl) (by kernel_rfl) (by kernel_rfl) (fun _ _ _ h => h) rfl (fun w hw => hw.1) under_key rfl (key_info HK.out) hS ?_
    refine hd_load 1 (w.heap.size + 1) 0 (cellsB y) _ _ rfl rfl rfl (by kernel_rfl) (by kernel_rfl) (by kernel_rfl) (fun _ _ _ h => h) rfl (fun w hw => hw.2) under_key rfl (key_info HY.out) hS ?_
    refine hd_load 3 (w.heap.size + 1) 0 (cellsB y) _ _ rfl rfl rfl (by kernel_rfl) (by kernel_rfl) (by kernel_rfl) (fun _ _ _ h => h) rfl (fun w hw => hw.2) under_key rfl (key_info HY.out) hS ?_
    refine hd_take 5 (.slice A1 L c1) rfl rfl (by kernel_rfl) (by kernel_rfl) (by kernel_rfl) (fun _ _ _ h => h) (fun w _ => by go_simp) hS ?_
    refine hd_calls 2 53 #[.agg (cellsB k).toArray, .agg (cellsB y).toArray] rfl rfl (by kernel_rfl) (by go_simp) ((HEN.out _).mono ?_)
    rintro e w5 ⟨rfl, hb5⟩
    have hS5 := And.intro (range_below hS.1 hb5) (range_below hS.2 hb5)
    refine ⟨_, rfl, hS5, ?_⟩
    refine hd_calls 4 54 #[.agg (cellsB y).toArray] rfl rfl (by kernel_rfl) (by go_simp) ((HCK.out _).mono ?_)
    rintro e w6 ⟨rfl, hb6⟩
    have hS6 := And.intro (range_below hS5.1 hb6) (range_below hS5.2 hb6)
    refine ⟨_, rfl, hS6, ?_⟩
    refine hd_build3 6 26 (.agg (cellsB (E)).toArray) (.agg (cellsB (q)).toArray) (.slice A1 L c1) (recC (E) (q) A1 L c1).toArray _ _ _ rfl rfl rfl (by kernel_rfl) (by kernel_rfl) (by kernel_rfl) (fun _ _ _ h => h) rfl rfl rfl (built_rec _ _ _ _ _ HEL.out HQL.out) hS6 ?_
    simp only [List.getElem_toArray, List.getElem_cons_succ, List.getElem_cons_zero, Act.put, List.setIfInBounds_toArray, List.set_cons_zero, List.set_cons_succ]
    have r6 := (B2.out.drew.below' hb5).below' hb6
    have hS7 := And.intro (range_setRow hS6.1 (g' := w.heap.size + 1 + 1) (by omega) (recC (E) (q) A1 L c1).toArray) (range_setRow hS6.2 (g' := w.heap.size + 1 + 1) (by omega) (recC (E) (q) A1 L c1).toArray)
    refine hd_store 7 (w.heap.size + 1 + 1) (recC (E) (q) A1 L c1).toArray _ _ _ rfl rfl rfl (by kernel_rfl) rfl rfl r6 (rec_info _ _ _ HEL.out HQL.out) (by rw [List.size_toArray, List.size_toArray, recC_length _ _ _ HEL.out HQL.out]; rfl) (by simpa using recC_all _ _ _ _ _) hS7 ?_
    refine hd_take 8 (.int .i64 0) rfl rfl (by kernel_rfl) (by kernel_rfl) (by kernel_rfl) (fun _ _ _ h => h) (fun w _ => by go_simp) hS7 ?_
    refine wpAnyH_done (by kernel_rfl) (NoPanic.normal ?_) _
    simp only [List.getElem_toArray, List.getElem_cons_succ, List.getElem_cons_zero, Act.put, List.setIfInBounds_toArray, List.set_cons_zero, List.set_cons_succ]
    have hb16 := bel_on (bel_on (w0 := w1) (Below.refl _ _).drew hb5) hb6
    have HO2 := Lib.hid (OB.le_ (B' := w.heap.size) (((HO1.out.below hb16)).low (g := w.heap.size + 1 + 1) (by simp) (recC (E) (q) A1 L c1).toArray) b0.size)
    have bF : Below w.heap.size w w6 := bel_on b1 hb16
    go_wp2_with fail
    refine bodyPost_ret (v := .tuple #[.agg (recC (E) (q) A1 L c1).toArray, .int .i64 0]) ?_ rfl ⟨⟨A1, c1, by rw [HS.out]; show _ = Ending.returned (.tuple #[.agg (recC (E) (q) A1 (sb).length c1).toArray, .int .i64 0]); rw [HSL.out], ?_⟩, below_setRow bF (by omega) _⟩
    · rw [results_cell_tmp Try.results8]
      simp [asAddr, Result.andThen, run_loadVar_row _ (w.heap.size + 1 + 1) _ _ _ (0, 0) _ (r6.setRow (recC (E) (q) A1 L c1).toArray) Try.underlying26 rfl (rec_info _ _ _ HEL.out HQL.out)]
    · rw [HS.out]
      exact HO2.out
end Go.Proofs.Ytinpiodfpnbllaa
