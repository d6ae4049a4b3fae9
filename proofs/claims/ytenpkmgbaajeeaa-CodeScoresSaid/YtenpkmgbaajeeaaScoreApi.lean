/-
  ScoreWord and Score, of the program and of the reference.
-/
import Derived.Test.YtenpkmgbaajeeaaRefScoreWord
namespace Go.Proofs.Ytenpkmgbaajeeaa
open Go.RowKit
set_option linter.unusedVariables false
attribute [local go_sem] scC_0 scC_1 scC_2 scC_0a scC_1a scC_2a

theorem swS_no {u b x : Int} {l : List Int} {k : List UInt8} (h : scoresB u b l = false) : swS u b l k x = ([], 70) := by rw [swS, h]; rfl
theorem swS_arg {u b x : Int} {l : List Int} {k : List UInt8} (h : scoresB u b l = true) (h2 : ¬ (0 ≤ x ∧ x < u)) : swS u b l k x = ([], 2) := by rw [swS, if_pos h, if_neg h2]
theorem swS_yes {u b x : Int} {l : List Int} {k : List UInt8} (h : scoresB u b l = true) (h2 : 0 ≤ x ∧ x < u) : swS u b l k x = (scoreWordS k b l x, 0) := by rw [swS, if_pos h, if_pos h2]
/-- What both hand back. -/
def BytesErr (B : Nat) (r : List UInt8 × Int) (e : Ending) (w' : World) : Prop := ∃ A c, e = .returned (.tuple #[.slice A r.1.length c, .int .i64 r.2]) ∧ OB B w' A c r.1
theorem bytesErr_nil (B : Nat) (w : World) (x : Int) {r : List UInt8 × Int} (h : r = ([], x)) : BytesErr B r (.returned (.tuple #[.slice none 0 0, .int .i64 x])) w := by
  subst h
  exact ⟨none, 0, rfl, OB.nil' _ _⟩
set_option maxHeartbeats 2000000 in
set_option maxRecDepth 100000 in
theorem ScoreWord_any (u b : Int) (A : Option Addr) (c : Nat) (l : List Int) (k : List UInt8) (x : Int) (w : World) {n : Nat} (hn : l.length = n) (h : IR w A c l) (hk : k.length = 16) :
    Calls Try.prog 8 #[.agg (scC u b A n c k).toArray, .int .i64 x] w fun e w' => BytesErr w.heap.size (swS u b l k x) e w' ∧ Below w.heap.size w w' := by
  have HN := Lib.hid hn
  have H := Lib.hid h
  have HK := Lib.hid hk
  have b0 := alloc_bel w (.cells (scC u b A n c k).toArray 34)
  have hv : scoresB u b l = false ∨ scoresB u b l = true := by cases scoresB u b l <;> simp
  rcases hv with hv | hv
  · have HV := Lib.hid hv
    have HS := Lib.hid (swS_no (x := x) (k := k) hv)
    clear hn h hk hv
    go_enter Try.func8, Try.ntmps8
    go_wp2_with (first
      | (refine wpList_load_row rfl 34 (.tmp 2) rfl w.heap.size rfl 34 (scC u b A n c k).toArray (0, 0) _ (Blk.new w _ _) Try.underlying34 rfl (scC_info u b A n c k HK.out) ?_)
      | (go_at_call 10; refine (CheckScores_any u b A c l k _ HN.out (H.out.below (alloc_bel _ _))).mono ?_; rintro e w1 ⟨rfl, hb1⟩; rw [HV.out, show ckS false = 70 from rfl]; have hB1 := (Blk.new w 34 (scC u b A n c k).toArray).below' hb1; have hc0 := hB1.cell 0; have HB1 := Lib.hid hB1; clear hB1))
    go_ret2
    exact ⟨bytesErr_nil _ _ _ HS.out, b0.trans (hb1.mono b0.size)⟩
  · have HV := Lib.hid hv
    by_cases hx : 0 ≤ x
    · have t1 : decide (x < 0) = false := by simp; omega
      by_cases hxu : x < u
      · have t2 : decide (u ≤ x) = false := by simp; omega
        have HS := Lib.hid (swS_yes (k := k) hv ⟨hx, hxu⟩)
        have HX : Hid (x ≤ 64) := by have := (scoresB_parts hv).1.2.1; unfold Hid; omega
        have HX0 := Lib.hid hx
        clear hn h hk hv hx hxu
        go_enter Try.func8, Try.ntmps8
        go_wp2_with (first
          | (refine wpList_load_row rfl 34 (.tmp 2) rfl w.heap.size rfl 34 (scC u b A n c k).toArray (0, 0) _ (Blk.new w _ _) Try.underlying34 rfl (scC_info u b A n c k HK.out) ?_)
          | (refine wpList_load_row rfl 34 (.tmp 2) rfl w.heap.size rfl 34 (scC u b A n c k).toArray (0, 0) _ HB1.out Try.underlying34 rfl (scC_info u b A n c k HK.out) ?_)
          | (go_at_call 10; refine (CheckScores_any u b A c l k _ HN.out (H.out.below (alloc_bel _ _))).mono ?_; rintro e w1 ⟨rfl, hb1⟩; rw [HV.out, show ckS true = 0 from rfl]; have hB1 := (Blk.new w 34 (scC u b A n c k).toArray).below' hb1; have hc0 := hB1.cell 0; have HB1 := Lib.hid hB1; clear hB1)
          | (go_at_call 29; refine (scoreWord_any u b A c l k x _ HN.out ((H.out.below b0).below hb1) HK.out HV.out HX0.out HX.out).mono ?_; rintro e w2 ⟨A2, c2, rfl, ho2, hb2⟩; have HO2 := Lib.hid ho2; clear ho2))
        go_ret2
        exact ⟨by rw [HS.out]; exact ⟨A2, c2, by rw [scoreWordS_length, HN.out]; rfl, OB.le_ HO2.out (Nat.le_trans b0.size hb1.size)⟩, (b0.trans (hb1.mono b0.size)).trans (hb2.mono (Nat.le_trans b0.size hb1.size))⟩
      · have t2 : decide (u ≤ x) = true := by simp; omega
        have HS := Lib.hid (swS_arg (k := k) hv (fun hh => hxu hh.2))
        clear hn h hk hv hx hxu
        go_enter Try.func8, Try.ntmps8
        go_wp2_with (first
          | (refine wpList_load_row rfl 34 (.tmp 2) rfl w.heap.size rfl 34 (scC u b A n c k).toArray (0, 0) _ (Blk.new w _ _) Try.underlying34 rfl (scC_info u b A n c k HK.out) ?_)
          | (go_at_call 10; refine (CheckScores_any u b A c l k _ HN.out (H.out.below (alloc_bel _ _))).mono ?_; rintro e w1 ⟨rfl, hb1⟩; rw [HV.out, show ckS true = 0 from rfl]; have hB1 := (Blk.new w 34 (scC u b A n c k).toArray).below' hb1; have hc0 := hB1.cell 0; have HB1 := Lib.hid hB1; clear hB1))
        go_ret2
        exact ⟨bytesErr_nil _ _ _ HS.out, b0.trans (hb1.mono b0.size)⟩
    · have t1 : decide (x < 0) = true := by simp; omega
      have HS := Lib.hid (swS_arg (k := k) hv (fun hh => hx hh.1))
      clear hn h hk hv hx
      go_enter Try.func8, Try.ntmps8
      go_wp2_with (first
        | (refine wpList_load_row rfl 34 (.tmp 2) rfl w.heap.size rfl 34 (scC u b A n c k).toArray (0, 0) _ (Blk.new w _ _) Try.underlying34 rfl (scC_info u b A n c k HK.out) ?_)
        | (go_at_call 10; refine (CheckScores_any u b A c l k _ HN.out (H.out.below (alloc_bel _ _))).mono ?_; rintro e w1 ⟨rfl, hb1⟩; rw [HV.out, show ckS true = 0 from rfl]; have hB1 := (Blk.new w 34 (scC u b A n c k).toArray).below' hb1; have hc0 := hB1.cell 0; have HB1 := Lib.hid hB1; clear hB1))
      go_ret2
      exact ⟨bytesErr_nil _ _ _ HS.out, b0.trans (hb1.mono b0.size)⟩
set_option maxHeartbeats 2000000 in
set_option maxRecDepth 100000 in
theorem refScoreWord_any (u b : Int) (A : Option Addr) (c : Nat) (l : List Int) (k : List UInt8) (x : Int) (w : World) {n : Nat} (hn : l.length = n) (h : IR w A c l) (hk : k.length = 16) :
    Calls Try.prog 9 #[.agg (scC u b A n c k).toArray, .int .i64 x] w fun e w' => BytesErr w.heap.size (swS u b l k x) e w' ∧ Below w.heap.size w w' := by
  have HN := Lib.hid hn
  have H := Lib.hid h
  have HK := Lib.hid hk
  have b0 := alloc_bel w (.cells (scC u b A n c k).toArray 34)
  have hv : scoresB u b l = false ∨ scoresB u b l = true := by cases scoresB u b l <;> simp
  rcases hv with hv | hv
  · have HV := Lib.hid hv
    have HS := Lib.hid (swS_no (x := x) (k := k) hv)
    clear hn h hk hv
    go_enter Try.func9, Try.ntmps9
    go_wp2_with (first
      | (refine wpList_load_row rfl 34 (.tmp 2) rfl w.heap.size rfl 34 (scC u b A n c k).toArray (0, 0) _ (Blk.new w _ _) Try.underlying34 rfl (scC_info u b A n c k HK.out) ?_)
      | (go_at_call 30; refine (refValidScores_any u b A c l k _ HN.out (H.out.below (alloc_bel _ _))).mono ?_; rintro e w1 ⟨rfl, hb1⟩; rw [HV.out]; have hB1 := (Blk.new w 34 (scC u b A n c k).toArray).below' hb1; have hc0 := hB1.cell 0; have HB1 := Lib.hid hB1; clear hB1))
    go_ret2
    exact ⟨bytesErr_nil _ _ _ HS.out, b0.trans (hb1.mono b0.size)⟩
  · have HV := Lib.hid hv
    by_cases hx : 0 ≤ x
    · have t1 : decide (x < 0) = false := by simp; omega
      by_cases hxu : x < u
      · have t2 : decide (u ≤ x) = false := by simp; omega
        have HS := Lib.hid (swS_yes (k := k) hv ⟨hx, hxu⟩)
        have HX : Hid (x ≤ 64) := by have := (scoresB_parts hv).1.2.1; unfold Hid; omega
        have HX0 := Lib.hid hx
        clear hn h hk hv hx hxu
        go_enter Try.func9, Try.ntmps9
        go_wp2_with (first
          | (refine wpList_load_row rfl 34 (.tmp 2) rfl w.heap.size rfl 34 (scC u b A n c k).toArray (0, 0) _ (Blk.new w _ _) Try.underlying34 rfl (scC_info u b A n c k HK.out) ?_)
          | (refine wpList_load_row rfl 34 (.tmp 2) rfl w.heap.size rfl 34 (scC u b A n c k).toArray (0, 0) _ HB1.out Try.underlying34 rfl (scC_info u b A n c k HK.out) ?_)
          | (go_at_call 30; refine (refValidScores_any u b A c l k _ HN.out (H.out.below (alloc_bel _ _))).mono ?_; rintro e w1 ⟨rfl, hb1⟩; rw [HV.out]; have hB1 := (Blk.new w 34 (scC u b A n c k).toArray).below' hb1; have hc0 := hB1.cell 0; have HB1 := Lib.hid hB1; clear hB1)
          | (go_at_call 31; refine (refScoresWord_any u b A c l k x _ HN.out ((H.out.below b0).below hb1) HK.out HV.out HX0.out HX.out).mono ?_; rintro e w2 ⟨A2, c2, rfl, ho2, hb2⟩; have HO2 := Lib.hid ho2; clear ho2))
        go_ret2
        exact ⟨by rw [HS.out]; exact ⟨A2, c2, by rw [scoreWordS_length, HN.out]; rfl, OB.le_ HO2.out (Nat.le_trans b0.size hb1.size)⟩, (b0.trans (hb1.mono b0.size)).trans (hb2.mono (Nat.le_trans b0.size hb1.size))⟩
      · have t2 : decide (u ≤ x) = true := by simp; omega
        have HS := Lib.hid (swS_arg (k := k) hv (fun hh => hxu hh.2))
        clear hn h hk hv hx hxu
        go_enter Try.func9, Try.ntmps9
        go_wp2_with (first
          | (refine wpList_load_row rfl 34 (.tmp 2) rfl w.heap.size rfl 34 (scC u b A n c k).toArray (0, 0) _ (Blk.new w _ _) Try.underlying34 rfl (scC_info u b A n c k HK.out) ?_)
          | (go_at_call 30; refine (refValidScores_any u b A c l k _ HN.out (H.out.below (alloc_bel _ _))).mono ?_; rintro e w1 ⟨rfl, hb1⟩; rw [HV.out]; have hB1 := (Blk.new w 34 (scC u b A n c k).toArray).below' hb1; have hc0 := hB1.cell 0; have HB1 := Lib.hid hB1; clear hB1))
        go_ret2
        exact ⟨bytesErr_nil _ _ _ HS.out, b0.trans (hb1.mono b0.size)⟩
    · have t1 : decide (x < 0) = true := by simp; omega
      have HS := Lib.hid (swS_arg (k := k) hv (fun hh => hx hh.1))
      clear hn h hk hv hx
      go_enter Try.func9, Try.ntmps9
      go_wp2_with (first
        | (refine wpList_load_row rfl 34 (.tmp 2) rfl w.heap.size rfl 34 (scC u b A n c k).toArray (0, 0) _ (Blk.new w _ _) Try.underlying34 rfl (scC_info u b A n c k HK.out) ?_)
        | (go_at_call 30; refine (refValidScores_any u b A c l k _ HN.out (H.out.below (alloc_bel _ _))).mono ?_; rintro e w1 ⟨rfl, hb1⟩; rw [HV.out]; have hB1 := (Blk.new w 34 (scC u b A n c k).toArray).below' hb1; have hc0 := hB1.cell 0; have HB1 := Lib.hid hB1; clear hB1))
      go_ret2
      exact ⟨bytesErr_nil _ _ _ HS.out, b0.trans (hb1.mono b0.size)⟩
end Go.Proofs.Ytenpkmgbaajeeaa
