/-
  Score, of the program and of the reference.
-/
import Derived.Test.YtenpkmgbaajeeaaScoreSum
namespace Go.Proofs.Ytenpkmgbaajeeaa
open Go.RowKit
set_option linter.unusedVariables false
attribute [local go_sem] scC_0 scC_1 scC_2 scC_0a scC_1a scC_2a

theorem scS_no {u b : Int} {l : List Int} {v y : List UInt8} (h : scoresB u b l = false) : scS u b l v y = (0, 70) := by rw [scS, h]; rfl
theorem scS_w {u b : Int} {l : List Int} {v y : List UInt8} (h : scoresB u b l = true) (h2 : wordB v l.length = false) : scS u b l v y = (0, 71) := by rw [scS, if_pos h, h2]; rfl
theorem scS_y {u b : Int} {l : List Int} {v y : List UInt8} (h : scoresB u b l = true) (h2 : copyB y l.length = false) : scS u b l v y = (0, 71) := by rw [scS, if_pos h, h2]; simp
theorem scS_yes {u b : Int} {l : List Int} {v y : List UInt8} (h : scoresB u b l = true) (h1 : wordB v l.length = true) (h2 : copyB y l.length = true) : scS u b l v y = (sumS b l v y l.length, 0) := by rw [scS, if_pos h, if_pos ⟨h1, h2⟩]
theorem wordB_sym {l : List UInt8} {n : Nat} (h : wordB l n = true) : l.length = n ∧ ∀ i, i < n → bt l i ≤ 1 := by
  simp only [wordB, Bool.and_eq_true, decide_eq_true_eq] at h
  exact ⟨h.1, fun i hi => symB_iff.1 h.2 i (by omega)⟩
theorem copyB_sym {l : List UInt8} {n : Nat} (h : copyB l n = true) : l.length = n ∧ ∀ i, i < n → bt l i ≤ 2 := by
  simp only [copyB, Bool.and_eq_true, decide_eq_true_eq] at h
  exact ⟨h.1, fun i hi => symB_iff.1 h.2 i (by omega)⟩
set_option maxHeartbeats 2000000 in
set_option maxRecDepth 100000 in
theorem Score_any (u b : Int) (A : Option Addr) (c : Nat) (l : List Int) (k : List UInt8) (V : Option Addr) (e : Nat) (v : List UInt8) (Y : Option Addr) (d : Nat) (y : List UInt8) (w : World) {n nv ny : Nat} (hn : l.length = n) (hvl : v.length = nv) (hyl : y.length = ny) (h : IR w A c l) (hvr : BR w V e v) (hy : BR w Y d y) (hk : k.length = 16) :
    Calls Try.prog 12 #[.agg (scC u b A n c k).toArray, .slice V nv e, .slice Y ny d] w fun er w' => er = .returned (.tuple #[.int .i64 (scS u b l v y).1, .int .i64 (scS u b l v y).2]) ∧ Below w.heap.size w w' := by
  have hlen : (n : Int) ≤ 140737488351232 := by have := h.len; omega
  have HN := Lib.hid hn
  have HVL := Lib.hid hvl
  have HYL := Lib.hid hyl
  have H := Lib.hid h
  have HVR := Lib.hid hvr
  have HY := Lib.hid hy
  have HK := Lib.hid hk
  have b0 := alloc_bel w (.cells (scC u b A n c k).toArray 34)
  have hv : scoresB u b l = false ∨ scoresB u b l = true := by cases scoresB u b l <;> simp
  rcases hv with hv | hv
  · have HV := Lib.hid hv
    have HS := Lib.hid (scS_no (v := v) (y := y) hv)
    clear hn hvl hyl h hvr hy hk hv
    go_enter Try.func12, Try.ntmps12
    go_wp2_with (first
      | (refine wpList_load_row rfl 34 (.tmp 3) rfl w.heap.size rfl 34 (scC u b A n c k).toArray (0, 0) _ (Blk.new w _ _) Try.underlying34 rfl (scC_info u b A n c k HK.out) ?_)
      | (go_at_call 10; refine (CheckScores_any u b A c l k _ HN.out (H.out.below (alloc_bel _ _))).mono ?_; rintro er w1 ⟨rfl, hb1⟩; rw [HV.out, show ckS false = 70 from rfl]; have hB1 := (Blk.new w 34 (scC u b A n c k).toArray).below' hb1; have hc2 := hB1.cell 2; have HB1 := Lib.hid hB1; clear hB1; have b1 := b0.trans (hb1.mono b0.size)))
    go_ret2
    exact ⟨by rw [HS.out]; rfl, b1⟩
  · have HV := Lib.hid hv
    have hwv : wordB v n = false ∨ wordB v n = true := by cases wordB v n <;> simp
    rcases hwv with hwb | hwb
    · have HWB := Lib.hid hwb
      have HS := Lib.hid (scS_w (y := y) hv (by rw [hn]; exact hwb))
      clear hn hvl hyl h hvr hy hk hv hwb
      go_enter Try.func12, Try.ntmps12
      go_wp2_with (first
        | (refine wpList_load_row rfl 34 (.tmp 3) rfl w.heap.size rfl 34 (scC u b A n c k).toArray (0, 0) _ (Blk.new w _ _) Try.underlying34 rfl (scC_info u b A n c k HK.out) ?_)
        | (go_at_call 10; refine (CheckScores_any u b A c l k _ HN.out (H.out.below (alloc_bel _ _))).mono ?_; rintro er w1 ⟨rfl, hb1⟩; rw [HV.out, show ckS true = 0 from rfl]; have hB1 := (Blk.new w 34 (scC u b A n c k).toArray).below' hb1; have hc2 := hB1.cell 2; have HB1 := Lib.hid hB1; clear hB1; have b1 := b0.trans (hb1.mono b0.size))
        | (go_at_call 23; refine (isWord_any V e v n _ HVL.out (HVR.out.below b1) (by omega)).mono ?_; rintro er w2 ⟨rfl, hb2⟩; rw [HWB.out]; have hB2 := HB1.out.below' hb2; have hc2' := hB2.cell 2; have HB2 := Lib.hid hB2; clear hB2; have b2 := b1.trans (hb2.mono b1.size)))
      go_ret2
      exact ⟨by rw [HS.out]; rfl, b2⟩
    · have HWB := Lib.hid hwb
      have hcv : copyB y n = false ∨ copyB y n = true := by cases copyB y n <;> simp
      rcases hcv with hcb | hcb
      · have HCB := Lib.hid hcb
        have HS := Lib.hid (scS_y (v := v) hv (by rw [hn]; exact hcb))
        clear hn hvl hyl h hvr hy hk hv hwb hcb
        go_enter Try.func12, Try.ntmps12
        go_wp2_with (first
          | (refine wpList_load_row rfl 34 (.tmp 3) rfl w.heap.size rfl 34 (scC u b A n c k).toArray (0, 0) _ (Blk.new w _ _) Try.underlying34 rfl (scC_info u b A n c k HK.out) ?_)
          | (go_at_call 10; refine (CheckScores_any u b A c l k _ HN.out (H.out.below (alloc_bel _ _))).mono ?_; rintro er w1 ⟨rfl, hb1⟩; rw [HV.out, show ckS true = 0 from rfl]; have hB1 := (Blk.new w 34 (scC u b A n c k).toArray).below' hb1; have hc2 := hB1.cell 2; have HB1 := Lib.hid hB1; clear hB1; have b1 := b0.trans (hb1.mono b0.size))
          | (go_at_call 23; refine (isWord_any V e v n _ HVL.out (HVR.out.below b1) (by omega)).mono ?_; rintro er w2 ⟨rfl, hb2⟩; rw [HWB.out]; have hB2 := HB1.out.below' hb2; have hc2' := hB2.cell 2; have HB2 := Lib.hid hB2; clear hB2; have b2 := b1.trans (hb2.mono b1.size))
          | (go_at_call 24; refine (isCopy_any Y d y n _ HYL.out (HY.out.below b2) (by omega)).mono ?_; rintro er w3 ⟨rfl, hb3⟩; rw [HCB.out]; have HB3 := Lib.hid (HB2.out.below' hb3); have b3 := b2.trans (hb3.mono b2.size)))
        go_ret2
        exact ⟨by rw [HS.out]; rfl, b3⟩
      · have HCB := Lib.hid hcb
        have HS := Lib.hid (scS_yes hv (by rw [hn]; exact hwb) (by rw [hn]; exact hcb))
        obtain ⟨e1, e2⟩ := wordB_sym hwb
        obtain ⟨e3, e4⟩ := copyB_sym hcb
        have E1 : Hid (nv = n) := by unfold Hid; omega
        have E3 : Hid (ny = n) := by unfold Hid; omega
        have E2 := Lib.hid e2
        have E4 := Lib.hid e4
        have HVL2 := Lib.hid e1
        have HYL2 := Lib.hid e3
        obtain rfl : nv = n := by omega
        obtain rfl : ny = nv := by omega
        clear hn hvl hyl h hvr hy hk hv hwb hcb e1 e2 e3 e4 E1 E3
        go_enter Try.func12, Try.ntmps12
        go_wp2_with (first
          | (refine wpList_load_row rfl 34 (.tmp 3) rfl w.heap.size rfl 34 (scC u b A ny c k).toArray (0, 0) _ (Blk.new w _ _) Try.underlying34 rfl (scC_info u b A ny c k HK.out) ?_)
          | (go_at_call 10; refine (CheckScores_any u b A c l k _ HN.out (H.out.below (alloc_bel _ _))).mono ?_; rintro er w1 ⟨rfl, hb1⟩; rw [HV.out, show ckS true = 0 from rfl]; have hB1 := (Blk.new w 34 (scC u b A ny c k).toArray).below' hb1; have hc2 := hB1.cell 2; have HB1 := Lib.hid hB1; clear hB1; have b1 := b0.trans (hb1.mono b0.size))
          | (go_at_call 23; refine (isWord_any V e v ny _ HVL.out (HVR.out.below b1) (by omega)).mono ?_; rintro er w2 ⟨rfl, hb2⟩; rw [HWB.out]; have hB2 := HB1.out.below' hb2; have hc2' := hB2.cell 2; have HB2 := Lib.hid hB2; clear hB2; have b2 := b1.trans (hb2.mono b1.size))
          | (go_at_call 24; refine (isCopy_any Y d y ny _ HYL.out (HY.out.below b2) (by omega)).mono ?_; rintro er w3 ⟨rfl, hb3⟩; rw [HCB.out]; have HB3 := Lib.hid (HB2.out.below' hb3); have b3 := b2.trans (hb3.mono b2.size))
          | (refine wpList_load_row rfl 34 (.tmp 3) rfl w.heap.size rfl 34 (scC u b A ny c k).toArray (0, 0) _ HB3.out Try.underlying34 rfl (scC_info u b A ny c k HK.out) ?_)
          | (go_at_call 32; refine (score_any u b A c l k V e v Y d y _ HN.out HVL2.out HYL2.out (H.out.below b3) (HVR.out.below b3) (HY.out.below b3) HK.out HV.out E2.out E4.out).mono ?_; rintro er w5 ⟨rfl, hb5⟩))
        go_ret2
        exact ⟨by rw [HS.out, HN.out]; rfl, b3.trans (hb5.mono b3.size)⟩

set_option maxHeartbeats 2000000 in
set_option maxRecDepth 100000 in
theorem refScore_any (u b : Int) (A : Option Addr) (c : Nat) (l : List Int) (k : List UInt8) (V : Option Addr) (e : Nat) (v : List UInt8) (Y : Option Addr) (d : Nat) (y : List UInt8) (w : World) {n nv ny : Nat} (hn : l.length = n) (hvl : v.length = nv) (hyl : y.length = ny) (h : IR w A c l) (hvr : BR w V e v) (hy : BR w Y d y) (hk : k.length = 16) :
    Calls Try.prog 13 #[.agg (scC u b A n c k).toArray, .slice V nv e, .slice Y ny d] w fun er w' => er = .returned (.tuple #[.int .i64 (scS u b l v y).1, .int .i64 (scS u b l v y).2]) ∧ Below w.heap.size w w' := by
  have hlen : (n : Int) ≤ 140737488351232 := by have := h.len; omega
  have HN := Lib.hid hn
  have HVL := Lib.hid hvl
  have HYL := Lib.hid hyl
  have H := Lib.hid h
  have HVR := Lib.hid hvr
  have HY := Lib.hid hy
  have HK := Lib.hid hk
  have b0 := alloc_bel w (.cells (scC u b A n c k).toArray 34)
  have hv : scoresB u b l = false ∨ scoresB u b l = true := by cases scoresB u b l <;> simp
  rcases hv with hv | hv
  · have HV := Lib.hid hv
    have HS := Lib.hid (scS_no (v := v) (y := y) hv)
    clear hn hvl hyl h hvr hy hk hv
    go_enter Try.func13, Try.ntmps13
    go_wp2_with (first
      | (refine wpList_load_row rfl 34 (.tmp 3) rfl w.heap.size rfl 34 (scC u b A n c k).toArray (0, 0) _ (Blk.new w _ _) Try.underlying34 rfl (scC_info u b A n c k HK.out) ?_)
      | (go_at_call 30; refine (refValidScores_any u b A c l k _ HN.out (H.out.below (alloc_bel _ _))).mono ?_; rintro er w1 ⟨rfl, hb1⟩; rw [HV.out]; have hB1 := (Blk.new w 34 (scC u b A n c k).toArray).below' hb1; have hc2 := hB1.cell 2; have HB1 := Lib.hid hB1; clear hB1; have b1 := b0.trans (hb1.mono b0.size)))
    go_ret2
    exact ⟨by rw [HS.out]; rfl, b1⟩
  · have HV := Lib.hid hv
    have hwv : wordB v n = false ∨ wordB v n = true := by cases wordB v n <;> simp
    rcases hwv with hwb | hwb
    · have HWB := Lib.hid hwb
      have HS := Lib.hid (scS_w (y := y) hv (by rw [hn]; exact hwb))
      clear hn hvl hyl h hvr hy hk hv hwb
      go_enter Try.func13, Try.ntmps13
      go_wp2_with (first
        | (refine wpList_load_row rfl 34 (.tmp 3) rfl w.heap.size rfl 34 (scC u b A n c k).toArray (0, 0) _ (Blk.new w _ _) Try.underlying34 rfl (scC_info u b A n c k HK.out) ?_)
        | (go_at_call 30; refine (refValidScores_any u b A c l k _ HN.out (H.out.below (alloc_bel _ _))).mono ?_; rintro er w1 ⟨rfl, hb1⟩; rw [HV.out]; have hB1 := (Blk.new w 34 (scC u b A n c k).toArray).below' hb1; have hc2 := hB1.cell 2; have HB1 := Lib.hid hB1; clear hB1; have b1 := b0.trans (hb1.mono b0.size))
        | (go_at_call 33; refine (refIsWord_any V e v n _ HVL.out (HVR.out.below b1) (by omega)).mono ?_; rintro er w2 ⟨rfl, rfl⟩; rw [HWB.out]; have HB3 := HB1; have b2 := b1))
      go_ret2
      exact ⟨by rw [HS.out]; rfl, b2⟩
    · have HWB := Lib.hid hwb
      have hcv : copyB y n = false ∨ copyB y n = true := by cases copyB y n <;> simp
      rcases hcv with hcb | hcb
      · have HCB := Lib.hid hcb
        have HS := Lib.hid (scS_y (v := v) hv (by rw [hn]; exact hcb))
        clear hn hvl hyl h hvr hy hk hv hwb hcb
        go_enter Try.func13, Try.ntmps13
        go_wp2_with (first
          | (refine wpList_load_row rfl 34 (.tmp 3) rfl w.heap.size rfl 34 (scC u b A n c k).toArray (0, 0) _ (Blk.new w _ _) Try.underlying34 rfl (scC_info u b A n c k HK.out) ?_)
          | (go_at_call 30; refine (refValidScores_any u b A c l k _ HN.out (H.out.below (alloc_bel _ _))).mono ?_; rintro er w1 ⟨rfl, hb1⟩; rw [HV.out]; have hB1 := (Blk.new w 34 (scC u b A n c k).toArray).below' hb1; have hc2 := hB1.cell 2; have HB1 := Lib.hid hB1; clear hB1; have b1 := b0.trans (hb1.mono b0.size))
          | (go_at_call 33; refine (refIsWord_any V e v n _ HVL.out (HVR.out.below b1) (by omega)).mono ?_; rintro er w2 ⟨rfl, rfl⟩; rw [HWB.out]; have HB3 := HB1; have b2 := b1)
          | (go_at_call 27; refine (refIsCopy_any Y d y n _ HYL.out (HY.out.below b1) (by omega)).mono ?_; rintro er w3 ⟨rfl, rfl⟩; rw [HCB.out]))
        go_ret2
        exact ⟨by rw [HS.out]; rfl, b1⟩
      · have HCB := Lib.hid hcb
        have HS := Lib.hid (scS_yes hv (by rw [hn]; exact hwb) (by rw [hn]; exact hcb))
        obtain ⟨e1, e2⟩ := wordB_sym hwb
        obtain ⟨e3, e4⟩ := copyB_sym hcb
        have E1 : Hid (nv = n) := by unfold Hid; omega
        have E3 : Hid (ny = n) := by unfold Hid; omega
        have E2 := Lib.hid e2
        have E4 := Lib.hid e4
        have HVL2 := Lib.hid e1
        have HYL2 := Lib.hid e3
        obtain rfl : nv = n := by omega
        obtain rfl : ny = nv := by omega
        clear hn hvl hyl h hvr hy hk hv hwb hcb e1 e2 e3 e4 E1 E3
        go_enter Try.func13, Try.ntmps13
        go_wp2_with (first
          | (refine wpList_load_row rfl 34 (.tmp 3) rfl w.heap.size rfl 34 (scC u b A ny c k).toArray (0, 0) _ (Blk.new w _ _) Try.underlying34 rfl (scC_info u b A ny c k HK.out) ?_)
          | (go_at_call 30; refine (refValidScores_any u b A c l k _ HN.out (H.out.below (alloc_bel _ _))).mono ?_; rintro er w1 ⟨rfl, hb1⟩; rw [HV.out]; have hB1 := (Blk.new w 34 (scC u b A ny c k).toArray).below' hb1; have hc2 := hB1.cell 2; have HB1 := Lib.hid hB1; clear hB1; have b1 := b0.trans (hb1.mono b0.size))
          | (go_at_call 33; refine (refIsWord_any V e v ny _ HVL.out (HVR.out.below b1) (by omega)).mono ?_; rintro er w2 ⟨rfl, rfl⟩; rw [HWB.out]; have HB3 := HB1; have b2 := b1)
          | (go_at_call 27; refine (refIsCopy_any Y d y ny _ HYL.out (HY.out.below b1) (by omega)).mono ?_; rintro er w3 ⟨rfl, rfl⟩; rw [HCB.out])
          | (refine wpList_load_row rfl 34 (.tmp 3) rfl w.heap.size rfl 34 (scC u b A ny c k).toArray (0, 0) _ HB3.out Try.underlying34 rfl (scC_info u b A ny c k HK.out) ?_)
          | (go_at_call 34; refine (refScoreOf_any u b A c l k V e v Y d y _ HN.out HVL2.out HYL2.out (H.out.below b1) (HVR.out.below b1) (HY.out.below b1) HV.out).mono ?_; rintro er w5 ⟨rfl, hb5⟩))
        go_ret2
        exact ⟨by rw [HS.out, HN.out]; rfl, b1.trans (hb5.mono b1.size)⟩
end Go.Proofs.Ytenpkmgbaajeeaa
