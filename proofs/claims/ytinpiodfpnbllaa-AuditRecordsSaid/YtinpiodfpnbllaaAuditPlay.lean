/-
  What a recording plays: the program's.
-/
import Derived.Test.YtinpiodfpnbllaaRecBuild
import Derived.Test.YtinpiodfpnbllaaAuditContent
import Derived.Test.YtinpiodfpnbllaaRecSame
namespace Go.Proofs.Ytinpiodfpnbllaa
open Go.RowKit
set_option linter.unusedVariables false
attribute [local go_sem] run_storeCells_key run_storeCells_new

set_option maxHeartbeats 2000000 in
set_option maxRecDepth 100000 in
theorem Play_any (k x c : List UInt8) (A : Option Addr) (m : Nat) (b : List UInt8) (w : World) {L : Nat} (hL : b.length = L) (h : BR w A m b) (hk : k.length = 16) (hx : x.length = 16) (hc : c.length = 16) :
    Calls Try.prog 13 #[.agg (cellsB k).toArray, .agg (recC x c A L m).toArray] w fun e w' => BytesErr w.heap.size (plyS k x c b) e w' ∧ Below w.heap.size w w' := by
  have hl0 : (L : Int) ≤ 140737488351232 := by have := h.len; omega
  have HL := Lib.hid hL
  have H := Lib.hid h
  have HK := Lib.hid hk
  have HX := Lib.hid hx
  have HC := Lib.hid hc
  have b0 := alloc2_bel w (.cells (cellsB k).toArray 23) (.cells (recC x c A L m).toArray 26)
  have e1 := recC_32 A L m hx hc
  have HCT : Hid (∀ W, Calls Try.prog 58 #[.agg (cellsB k).toArray, .agg (recC x c A L m).toArray] W fun e w' => e = .returned (if chkS (decS k x) = c then .tuple #[.agg (cellsB (decS k x)).toArray, .int .i64 0] else .tuple #[.agg (cellsB zeroK).toArray, .int .i64 53]) ∧ Below W.heap.size W w') := fun W => content_any k x c A L m W hk hx hc
  by_cases hbig : 16384 < L
  · have hbi : (16384 : Int) < L := by omega
    have HS : Hid (plyS k x c b = ([], 4)) := by unfold Hid plyS; rw [if_pos (by omega)]
    clear hL h hk hx hc hbig
    go_enter Try.func13, Try.ntmps13
    go_wp2_with fail
    go_ret2
    exact ⟨bytesErr_nil _ _ _ HS.out, b0⟩
  · have hbi : (L : Int) ≤ 16384 := by omega
    by_cases hq : chkS (decS k x) = c
    · have HS : Hid (plyS k x c b = strR (decS k x) 0 b) := by unfold Hid plyS strR; rw [if_neg (show ¬ 16384 < b.length by omega), if_pos hq, if_neg (show ¬ 16384 < b.length by omega)]
      rw [if_pos hq] at HCT
      have hdl : (decS k x).length = 16 := rfl
      have HST : Hid (∀ W, BR W A m b → Calls Try.prog 52 #[.agg (cellsB (decS k x)).toArray, .int .u64 0, .slice A L m] W fun e w' => BytesErr W.heap.size (strR (decS k x) 0 b) e w' ∧ Below W.heap.size W w') := fun W hW => Stream_any (decS k x) 0 A m b W hL hW hdl
      clear hq
      generalize decS k x = d at HCT hdl HST HS
      have HDL := Lib.hid hdl
      have hdc : (cellsB d).length = 16 := by rw [cellsB_length, hdl]
      have hall := all16 d
      have hcell : ((w.alloc (.cells (cellsB k).toArray 23)).alloc (.cells (recC x c A L m).toArray 26)).cell? ⟨w.heap.size + 1, 32, none⟩ = some (.slice A L m) := rec_data (blk_b1 w (.cells (cellsB k).toArray 23) (recC x c A L m).toArray 26) hx hc
      have HCELL := Lib.hid hcell
      clear hcell hdl hL h hk hx hc hbig
      go_enter Try.func13, Try.ntmps13
      go_wp2_with (first
        | (refine wpList_load_row rfl 23 (.tmp 2) rfl w.heap.size rfl 23 (cellsB k).toArray (0, 0) _ (blk_b0 w _ _ _) under_key rfl (cellsB_size _ HK.out) ?_)
        | (refine wpList_load_row rfl 26 (.tmp 3) rfl (w.heap.size + 1) rfl 26 (recC x c A L m).toArray (0, 0) _ (blk_b1 w _ _ _) Try.underlying26 rfl (rec_info _ _ _ HX.out HC.out) ?_)
        | (go_at_call 58; refine (HCT.out _).mono ?_; rintro e w1 ⟨rfl, hb1⟩; have hc1 := rec_data (((blk_b1 w (.cells (cellsB k).toArray 23) (recC x c A L m).toArray 26).below' hb1).alloc (.cells (cellsB d).toArray 23)) HX.out HC.out; have b1 := b0.trans (hb1.mono b0.size))
        | (refine wpList_load_row rfl 23 (.tmp 6) rfl w1.heap.size rfl 23 (cellsB d).toArray (0, 0) _ (Blk.new w1 _ _) under_key rfl (cellsB_size _ HDL.out) ?_)
        | (go_at_call 52; refine (HST.out _ (H.out.below (b1.alloc b1.size _))).mono ?_; rintro e w2 ⟨⟨A2, c2, rfl, ho2⟩, hb2⟩; have HO2 := Lib.hid ho2; clear ho2))
      go_ret2
      exact ⟨⟨A2, c2, by rw [HS.out]; rfl, by rw [HS.out]; exact OB.le_ HO2.out (b1.alloc b1.size _).size⟩, bel_on (b1.alloc b1.size _) hb2⟩
    · have HS : Hid (plyS k x c b = ([], 53)) := by unfold Hid plyS; rw [if_neg (show ¬ 16384 < b.length by omega), if_neg hq]
      rw [if_neg hq] at HCT
      have hdc : (cellsB zeroK).length = 16 := rfl
      have hall := all16 zeroK
      clear hq hL h hk hx hc hbig
      go_enter Try.func13, Try.ntmps13
      go_wp2_with (first
        | (refine wpList_load_row rfl 23 (.tmp 2) rfl w.heap.size rfl 23 (cellsB k).toArray (0, 0) _ (blk_b0 w _ _ _) under_key rfl (cellsB_size _ HK.out) ?_)
        | (refine wpList_load_row rfl 26 (.tmp 3) rfl (w.heap.size + 1) rfl 26 (recC x c A L m).toArray (0, 0) _ (blk_b1 w _ _ _) Try.underlying26 rfl (rec_info _ _ _ HX.out HC.out) ?_)
        | (go_at_call 58; refine (HCT.out _).mono ?_; rintro e w1 ⟨rfl, hb1⟩; have b1 := b0.trans (hb1.mono b0.size)))
      go_ret2
      exact ⟨bytesErr_nil _ _ _ HS.out, b1.alloc b1.size _⟩
end Go.Proofs.Ytinpiodfpnbllaa
