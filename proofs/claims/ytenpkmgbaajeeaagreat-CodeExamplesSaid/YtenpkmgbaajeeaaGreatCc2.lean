/-
  Lemmas and contracts, joined.
-/
import Derived.RangeFuncBox
import Derived.Test.YtenpkmgbaajeeaaGreatCc1
import Derived.Test.YtenpkmgbaajeeaaGreatCs1
import Derived.Test.YtenpkmgbaajeeaaGreatCt1
import Derived.Test.YtenpkmgbaajeeaaGreatCp3
set_option linter.unusedSimpArgs false
set_option linter.unusedVariables false
set_option linter.unnecessarySimpa false
/- The word of a user of a code of scores: the reference. -/
namespace Go.Proofs.YtenpkmgbaajeeaaGreat
open Go.RowKit
set_option linter.unusedVariables false
attribute [local go_sem] scC_0 scC_1 scC_2 scC_0a scC_1a scC_2a scC_k scC_ka run_storeCells_new

set_option maxHeartbeats 2000000 in
set_option maxRecDepth 100000 in
theorem refScoresWord_any (u b : Int) (A : Option Addr) (c : Nat) (l : List Int) (k : List UInt8) (x : Int) (w : World) {n : Nat} (hn : l.length = n) (h : IR w A c l) (hk : k.length = 16) (hok : scoresB u b l = true) (hx0 : 0 ≤ x) (hx1 : x ≤ 64) :
    Calls Tryz.prog 90 #[.agg (scC u b A n c k).toArray, .int .i64 x] w fun e w' => ∃ A' c', e = .returned (.slice A' n c') ∧ OB w.heap.size w' A' c' (scoreWordS k b l x) ∧ Below w.heap.size w w' := by
  obtain ⟨⟨o1, o2, o3, o4, o5, o6⟩, o7⟩ := scoresB_parts hok
  have hnn : (n : Int) ≤ 64 := by omega
  have hn0 : (0 : Int) ≤ n := by omega
  have HN := Lib.hid hn
  have H := Lib.hid h
  have HK := Lib.hid hk
  have HO := Lib.hid o7
  have hkl : (cellsB k).length = 16 := by rw [cellsB_length, hk]
  have HD : Hid (∀ W, Calls Tryz.prog 119 #[.agg (cellsB k).toArray, .int .u8 70, .int .u64 x] W fun e w' => e = .returned (.agg (cellsB (derS k 70 (UInt64.ofNat x.toNat))).toArray) ∧ Below W.heap.size W w') := fun W => by
    have := refDerive_any k 70 (UInt64.ofNat x.toNat) W hk
    rw [ofNat_toNat_int hx0 (by omega)] at this
    exact this
  have HF := Lib.hid (swP_fin k b l x)
  obtain ⟨d, hd⟩ : ∃ d, derS k 70 (UInt64.ofNat x.toNat) = d := ⟨_, rfl⟩
  have hdl : d.length = 16 := by rw [← hd]; rfl
  rw [hd] at HD HF
  have HDL := Lib.hid hdl
  have hdc : (cellsB d).length = 16 := by rw [cellsB_length, hdl]
  have hall := all16 d
  have hmk := run_make_row' (P := Tryz.prog) 30 5 (.int .u8 0) 1 Tryz.underlying30 (by kernel_rfl) rfl .i64 .i64 n (by omega) (by omega)
  have HMB := Lib.hid (made_bytes n)
  clear hn h hk hok o7 hd hdl o5 o6
  go_enter Tryz.func90, Tryz.ntmps90
  go_wp2_with (go_at_call 119; rw [fold16B k HK.out]; refine (HD.out _).mono ?_; rintro e w1 ⟨rfl, hb1⟩; have hc2 : ∀ o, (w1.alloc o).cell? ⟨w.heap.size, 2, none⟩ = some (.slice A n c) := fun o => (((Blk.new w 46 (scC u b A n c k).toArray).below' hb1).alloc o).cell 2; have hc2' : ∀ o o', ((w1.alloc o).alloc o').cell? ⟨w.heap.size, 2, none⟩ = some (.slice A n c) := fun o o' => ((((Blk.new w 46 (scC u b A n c k).toArray).below' hb1).alloc o).alloc o').cell 2)
  rw [HMB.out]
  have b01 : Below w.heap.size w w1 := (alloc_bel w _).trans (hb1.mono (alloc_bel w (.cells (scC u b A n c k).toArray 46)).size)
  have s01 : w.heap.size < w1.heap.size := by have := hb1.size; simp at this; omega
  have bS : Blk w1 w.heap.size 46 (scC u b A n c k).toArray := (Blk.new w _ _).below' hb1
  go_loopw [7] (fun vk wr => ∃ i : Nat, i ≤ n ∧ vk = .int .i64 (i : Int) ∧ Blk wr w.heap.size 46 (scC u b A n c k).toArray ∧ Blk wr w1.heap.size 23 (cellsB d).toArray ∧ Hid (Blk wr (w1.heap.size + 1) 5 (cellsB (swP d b l i)).toArray) ∧ Below w.heap.size w wr) (fun vk _ => n - (intOf vk).toNat)
  case atStart => exact ⟨0, by omega, rfl, (bS.alloc _).alloc _, blk_b0 _ _ _ _, by rw [swP_zero, HN.out]; exact blk_b1 _ _ _ _, b01.trans ((alloc2_bel w1 _ _).mono b01.size)⟩
  case round =>
    obtain ⟨i, hi, rfl, hB1, hB2, HB3, hbel⟩ := hrel
    by_cases hin : i < n
    · have hil : i < l.length := by have := HN.out; omega
      obtain ⟨bb, off, rfl, hbb, hc⟩ := (H.out.below hbel).at_ (i := i) hil
      have hii : (i : Int) < n := by omega
      have hbo := HO.out i hil
      have hb32 : (b : Int) ≤ 32 := o4
      have HNum : Hid (∀ W, Calls Tryz.prog 135 #[.agg (cellsB d).toArray, .int .u64 (i : Int), .int .u64 b] W fun e w' => e = .returned (.int .u64 ((numS d (UInt64.ofNat i) (UInt64.ofNat b.toNat)).toNat : Int)) ∧ Below W.heap.size W w') := fun W => by
        have h1 := refNumber_any d (UInt64.ofNat i) (UInt64.ofNat b.toNat) W HDL.out
        rw [ofNat_toNat_int (x := b) (by omega) (by omega)] at h1
        have h2 := ofNat_toNat_int (x := (i : Int)) (by omega) (by omega)
        rw [Int.toNat_natCast] at h2
        rw [h2] at h1
        exact h1
      have hyes := fun hh => swP_yes (d := d) (b := b) hil hh
      have hno := fun hh => swP_no (d := d) (b := b) (l := l) (i := i) hh
      obtain ⟨m, hm⟩ : ∃ m, (numS d (UInt64.ofNat i) (UInt64.ofNat b.toNat)).toNat = m := ⟨_, rfl⟩
      rw [hm] at HNum hyes hno
      have hmi : (m : Int) ≤ 18446744073709551615 := by rw [← hm]; exact u64_bd _
      have HB1 := Lib.hid hB1
      have HB2 := Lib.hid hB2
      have HIL := Lib.hid hil
      have f1 : ∀ x : Wd wr, x.w.cell? ⟨w.heap.size, 1, none⟩ = some (.int .i64 b) := fun x => (HB1.out.below' x.h).cell 1
      have f2 : ∀ x : Wd wr, x.w.cell? ⟨w.heap.size, 2, none⟩ = some (.slice (some ⟨bb, off, none⟩) n c) := fun x => (HB1.out.below' x.h).cell 2
      have f3 : ∀ (x : Wd wr) (j : Nat), x.w.cell? ⟨w1.heap.size, j, none⟩ = (cellsB d).toArray[j]? := fun x j => (HB2.out.below' x.h).cell j
      have f4 : ∀ x : Wd wr, x.w.cell? ⟨bb, off + i, none⟩ = some (.int .i64 (it l i)) := fun x => (x.h.cell (p := ⟨bb, off + i, none⟩) hbb).trans hc
      clear hB1 hB2
      generalize it l i = a at *
      clear hm hil
      rcases Int.lt_or_le (m : Int) a with hlt | hlt
      · have HS := Lib.hid (hyes (by omega))
        have t1 : decide ((m : Int) < a) = true := by simp; omega
        clear hyes hno hlt
        have ha1 : 1 ≤ a := hbo.1
        have ha2 : a < b := hbo.2
        go_wp2_with fail
        refine wp_region_wd (by kernel_rfl) (by kernel_rfl) ?_
        repeat (go_big_quiet_step ((go_at_call 135; rw [fold16B d HDL.out]; exact Wd.call _ (HNum.out _))))
        refine wpQuiet_nil ?_
        intro _ hw'
        obtain ⟨xx, hw''⟩ := hw'
        subst hw''
        have hb2 := xx.h
        have hB3 := HB3.out.below' hb2
        have hd3 := hB3.cell i
        rw [bytes_get _ i (by rw [swP_length]; exact HIL.out)] at hd3
        have hf3 := hB3.frozen i
        have HB3' := Lib.hid hB3
        clear hB3
        go_wp2_with fail
        have hB4 := HB3'.out.set_ i (.int .u8 ((1 : UInt8).toNat : Int))
        rw [bytes_set, HS.out] at hB4
        have hbF := (hbel.trans (hb2.mono hbel.size)).setCell (p := ⟨w1.heap.size + 1, i, none⟩) (by simp; omega) (.int .u8 ((1 : UInt8).toNat : Int))
        go_roundw
        case rel => exact ⟨i + 1, by omega, by go_num, (HB1.out.below' hb2).far (p := ⟨w1.heap.size + 1, i, none⟩) (by simp; omega) _, (HB2.out.below' hb2).far (p := ⟨w1.heap.size + 1, i, none⟩) (by simp) _, hB4, hbF⟩
        case measure => simp [intOf]; omega
      · have HS := Lib.hid (hno (by omega))
        have t1 : decide ((m : Int) < a) = false := by simp; omega
        clear hyes hno hlt
        have ha1 : 1 ≤ a := hbo.1
        have ha2 : a < b := hbo.2
        go_wp2_with fail
        refine wp_region_wd (by kernel_rfl) (by kernel_rfl) ?_
        repeat (go_big_quiet_step ((go_at_call 135; rw [fold16B d HDL.out]; exact Wd.call _ (HNum.out _))))
        refine wpQuiet_nil ?_
        intro _ hw'
        obtain ⟨xx, hw''⟩ := hw'
        subst hw''
        have hb2 := xx.h
        go_wp2_with fail
        have hbF := hbel.trans (hb2.mono hbel.size)
        go_roundw
        case rel => exact ⟨i + 1, by omega, by go_num, HB1.out.below' hb2, HB2.out.below' hb2, by rw [← HS.out]; exact HB3.out.below' hb2, hbF⟩
        case measure => simp [intOf]; omega
    · obtain rfl : i = n := by omega
      have HB5 : Hid (Blk wr (w1.heap.size + 1) 5 (cellsB (scoreWordS k b l x)).toArray) := by
        have h1 := HB3.out
        have h2 := HF.out
        rw [HN.out] at h2
        rw [h2] at h1
        exact h1
      have HSL := Lib.hid (scoreWordS_length k b l x)
      clear hB1 hB2
      go_wp2_with fail
      go_ret
      exact ⟨_, _, rfl, HB5.out.ob (by omega) (by rw [HSL.out, HN.out]) rfl (by omega), hbel⟩
end Go.Proofs.YtenpkmgbaajeeaaGreat

/- ScoreWord and Score, of the program and of the reference. -/
namespace Go.Proofs.YtenpkmgbaajeeaaGreat
open Go.RowKit
set_option linter.unusedVariables false
attribute [local go_sem] scC_0 scC_1 scC_2 scC_0a scC_1a scC_2a

theorem swS_no {u b x : Int} {l : List Int} {k : List UInt8} (h : scoresB u b l = false) : swS u b l k x = ([], 70) := by rw [swS, h]; rfl
theorem swS_arg {u b x : Int} {l : List Int} {k : List UInt8} (h : scoresB u b l = true) (h2 : ¬ (0 ≤ x ∧ x < u)) : swS u b l k x = ([], 2) := by rw [swS, if_pos h, if_neg h2]
theorem swS_yes {u b x : Int} {l : List Int} {k : List UInt8} (h : scoresB u b l = true) (h2 : 0 ≤ x ∧ x < u) : swS u b l k x = (scoreWordS k b l x, 0) := by rw [swS, if_pos h, if_pos h2]
set_option maxHeartbeats 2000000 in
set_option maxRecDepth 100000 in
theorem ScoreWord_any (u b : Int) (A : Option Addr) (c : Nat) (l : List Int) (k : List UInt8) (x : Int) (w : World) {n : Nat} (hn : l.length = n) (h : IR w A c l) (hk : k.length = 16) :
    Calls Tryz.prog 63 #[.agg (scC u b A n c k).toArray, .int .i64 x] w fun e w' => BytesErr w.heap.size (swS u b l k x) e w' ∧ Below w.heap.size w w' := by
  have HN := Lib.hid hn
  have H := Lib.hid h
  have HK := Lib.hid hk
  have b0 := alloc_bel w (.cells (scC u b A n c k).toArray 46)
  have hv : scoresB u b l = false ∨ scoresB u b l = true := by cases scoresB u b l <;> simp
  rcases hv with hv | hv
  · have HV := Lib.hid hv
    have HS := Lib.hid (swS_no (x := x) (k := k) hv)
    clear hn h hk hv
    go_enter Tryz.func63, Tryz.ntmps63
    go_wp2_with (first
      | (refine wpList_load_row rfl 46 (.tmp 2) rfl w.heap.size rfl 46 (scC u b A n c k).toArray (0, 0) _ (Blk.new w _ _) Tryz.underlying46 rfl (scC_info u b A n c k HK.out) ?_)
      | (go_at_call 99; refine (CheckScores_any u b A c l k _ HN.out (H.out.below (alloc_bel _ _))).mono ?_; rintro e w1 ⟨rfl, hb1⟩; rw [HV.out, show ckS false = 70 from rfl]; have hB1 := (Blk.new w 46 (scC u b A n c k).toArray).below' hb1; have hc0 := hB1.cell 0; have HB1 := Lib.hid hB1; clear hB1))
    go_ret2
    exact ⟨bytesErr_nil _ _ _ HS.out, b0.trans (hb1.mono b0.size)⟩
  · have HV := Lib.hid hv
    by_cases hx : 0 ≤ x
    · have t1 : decide (x < 0) = false := by simp; omega
      by_cases hxu : x < u
      · have t2 : decide (u ≤ x) = false := by simp; omega
        have HS := Lib.hid (swS_yes (k := k) hv ⟨hx, hxu⟩)
        have HX : Hid (x ≤ 64) := by have := (scoresB_parts hv).1.2.1; unfold Hid; omega
        have HX0 := Lib.hid hx
        clear hn h hk hv hx hxu
        go_enter Tryz.func63, Tryz.ntmps63
        go_wp2_with (first
          | (refine wpList_load_row rfl 46 (.tmp 2) rfl w.heap.size rfl 46 (scC u b A n c k).toArray (0, 0) _ (Blk.new w _ _) Tryz.underlying46 rfl (scC_info u b A n c k HK.out) ?_)
          | (refine wpList_load_row rfl 46 (.tmp 2) rfl w.heap.size rfl 46 (scC u b A n c k).toArray (0, 0) _ HB1.out Tryz.underlying46 rfl (scC_info u b A n c k HK.out) ?_)
          | (go_at_call 99; refine (CheckScores_any u b A c l k _ HN.out (H.out.below (alloc_bel _ _))).mono ?_; rintro e w1 ⟨rfl, hb1⟩; rw [HV.out, show ckS true = 0 from rfl]; have hB1 := (Blk.new w 46 (scC u b A n c k).toArray).below' hb1; have hc0 := hB1.cell 0; have HB1 := Lib.hid hB1; clear hB1)
          | (go_at_call 88; refine (scoreWord_any u b A c l k x _ HN.out ((H.out.below b0).below hb1) HK.out HV.out HX0.out HX.out).mono ?_; rintro e w2 ⟨A2, c2, rfl, ho2, hb2⟩; have HO2 := Lib.hid ho2; clear ho2))
        go_ret2
        exact ⟨by rw [HS.out]; exact ⟨A2, c2, by rw [scoreWordS_length, HN.out]; rfl, OB.le_ HO2.out (Nat.le_trans b0.size hb1.size)⟩, (b0.trans (hb1.mono b0.size)).trans (hb2.mono (Nat.le_trans b0.size hb1.size))⟩
      · have t2 : decide (u ≤ x) = true := by simp; omega
        have HS := Lib.hid (swS_arg (k := k) hv (fun hh => hxu hh.2))
        clear hn h hk hv hx hxu
        go_enter Tryz.func63, Tryz.ntmps63
        go_wp2_with (first
          | (refine wpList_load_row rfl 46 (.tmp 2) rfl w.heap.size rfl 46 (scC u b A n c k).toArray (0, 0) _ (Blk.new w _ _) Tryz.underlying46 rfl (scC_info u b A n c k HK.out) ?_)
          | (go_at_call 99; refine (CheckScores_any u b A c l k _ HN.out (H.out.below (alloc_bel _ _))).mono ?_; rintro e w1 ⟨rfl, hb1⟩; rw [HV.out, show ckS true = 0 from rfl]; have hB1 := (Blk.new w 46 (scC u b A n c k).toArray).below' hb1; have hc0 := hB1.cell 0; have HB1 := Lib.hid hB1; clear hB1))
        go_ret2
        exact ⟨bytesErr_nil _ _ _ HS.out, b0.trans (hb1.mono b0.size)⟩
    · have t1 : decide (x < 0) = true := by simp; omega
      have HS := Lib.hid (swS_arg (k := k) hv (fun hh => hx hh.1))
      clear hn h hk hv hx
      go_enter Tryz.func63, Tryz.ntmps63
      go_wp2_with (first
        | (refine wpList_load_row rfl 46 (.tmp 2) rfl w.heap.size rfl 46 (scC u b A n c k).toArray (0, 0) _ (Blk.new w _ _) Tryz.underlying46 rfl (scC_info u b A n c k HK.out) ?_)
        | (go_at_call 99; refine (CheckScores_any u b A c l k _ HN.out (H.out.below (alloc_bel _ _))).mono ?_; rintro e w1 ⟨rfl, hb1⟩; rw [HV.out, show ckS true = 0 from rfl]; have hB1 := (Blk.new w 46 (scC u b A n c k).toArray).below' hb1; have hc0 := hB1.cell 0; have HB1 := Lib.hid hB1; clear hB1))
      go_ret2
      exact ⟨bytesErr_nil _ _ _ HS.out, b0.trans (hb1.mono b0.size)⟩
end Go.Proofs.YtenpkmgbaajeeaaGreat

/- The score: of the program and of the reference. -/
namespace Go.Proofs.YtenpkmgbaajeeaaGreat
open Go.RowKit
set_option linter.unusedVariables false
attribute [local go_sem] scC_0 scC_1 scC_2 scC_0a scC_1a scC_2a

/-- What a place adds, as the program keeps it: for a 0 and for a 1. -/
def gainC (b a : Int) (y : Nat) : Array Value := #[.int .i64 (partS b a 0 y), .int .i64 (partS b a 1 y)]
theorem partS_0 (b a : Int) (w : Nat) : partS b a w 0 = if w = 0 then a else a - b := rfl
theorem partS_1 (b a : Int) (w : Nat) : partS b a w 1 = if w = 1 then b - a else -a := rfl
theorem partS_2 (b a : Int) (w : Nat) : partS b a w 2 = 0 := rfl

set_option maxHeartbeats 1000000 in
theorem gains_any (u b : Int) (A : Option Addr) (c : Nat) (l : List Int) (k : List UInt8) (Y : Option Addr) (d : Nat) (y : List UInt8) (i : Nat) (w : World) {n m : Nat} (hn : l.length = n) (hm : y.length = m) (h : IR w A c l) (hy : BR w Y d y) (hin : i < n) (him : i < m) (hb : 2 ≤ b ∧ b ≤ 32) (ha : 1 ≤ it l i ∧ it l i < b) (hyb : bt y i ≤ 2) :
    Calls Tryz.prog 134 #[.agg (scC u b A n c k).toArray, .slice Y m d, .int .i64 (i : Int)] w fun e w' => e = .returned (.agg #[.int .i64 (partS b (it l i) 0 (bt y i)), .int .i64 (partS b (it l i) 1 (bt y i))]) ∧ Below w.heap.size w w' := by
  have hlen : (n : Int) ≤ 140737488351232 := by have := h.len; omega
  have hmlen : (m : Int) ≤ 140737488351232 := by have := hy.len; omega
  obtain ⟨gb, go, rfl, hgb, hgc⟩ := h.at_ (i := i) (by omega)
  obtain ⟨yb, yo, rfl, hyb', hyc⟩ := hy.at_ (i := i) (by omega)
  have h1 : (i : Int) < n := by omega
  have h2 : (i : Int) < m := by omega
  generalize it l i = a at *
  generalize bt y i = z at *
  obtain ⟨hb1, hb2⟩ := hb
  obtain ⟨ha1, ha2⟩ := ha
  have bA := alloc2_bel w (.cells (scC u b (some ⟨gb, go, none⟩) n c k).toArray 46) (.cells #[.int .i64 0, .int .i64 0] 176)
  clear h hy hn hm
  have hz : z = 0 ∨ z = 1 ∨ z = 2 := by omega
  rcases hz with rfl | rfl | rfl
  all_goals
    go_enter Tryz.func134, Tryz.ntmps134
    go_wp2_with fail
    exact bodyPost_ret (results_cell_row rfl _ _ (w.heap.size + 1) _ _ (0, 0) _ rfl (blk_b1 _ _ _ _) Tryz.underlying176 rfl (by kernel_rfl)) rfl ⟨rfl, alloc2_bel _ _ _⟩

theorem sumS_succ (b : Int) (l : List Int) (w y : List UInt8) (k : Nat) : sumS b l w y (k + 1) = sumS b l w y k + partS b (it l k) (bt w k) (bt y k) := rfl
set_option maxHeartbeats 1000000 in
theorem score_any (u b : Int) (A : Option Addr) (c : Nat) (l : List Int) (k : List UInt8) (V : Option Addr) (e : Nat) (v : List UInt8) (Y : Option Addr) (d : Nat) (y : List UInt8) (w : World) {n : Nat} (hn : l.length = n) (hv : v.length = n) (hm : y.length = n) (h : IR w A c l) (hvr : BR w V e v) (hy : BR w Y d y) (hk : k.length = 16)
    (hok : scoresB u b l = true) (hvw : ∀ i, i < n → bt v i ≤ 1) (hyc : ∀ i, i < n → bt y i ≤ 2) :
    Calls Tryz.prog 87 #[.agg (scC u b A n c k).toArray, .slice V n e, .slice Y n d] w fun e w' => e = .returned (.int .i64 (sumS b l v y n)) ∧ Below w.heap.size w w' := by
  obtain ⟨⟨o1, o2, o3, o4, o5, o6⟩, o7⟩ := scoresB_parts hok
  have hnn : (n : Int) ≤ 64 := by omega
  have HSB : Hid (∀ j, j ≤ n → -(32 * (j : Int)) ≤ sumS b l v y j ∧ sumS b l v y j ≤ 32 * (j : Int)) := fun j hj => sumS_bd ⟨o3, o4⟩ o7 j (by omega)
  have HN := Lib.hid hn
  have HV := Lib.hid hv
  have HM := Lib.hid hm
  have H := Lib.hid h
  have HVR := Lib.hid hvr
  have HY := Lib.hid hy
  have HK := Lib.hid hk
  have HO := Lib.hid o7
  have HW := Lib.hid hvw
  have HC := Lib.hid hyc
  have hix0 : ∀ (p q : Int) W, (Instr.index 176 (.agg #[.int .i64 p, .int .i64 q]) (.int .u8 0)).run Tryz.prog W = .ok (.int .i64 p) W := fun _ _ _ => by kernel_rfl
  have hix1 : ∀ (p q : Int) W, (Instr.index 176 (.agg #[.int .i64 p, .int .i64 q]) (.int .u8 1)).run Tryz.prog W = .ok (.int .i64 q) W := fun _ _ _ => by kernel_rfl
  clear hn hv hm h hvr hy hk hok hvw hyc o5 o6 o7
  go_enter Tryz.func87, Tryz.ntmps87
  go_wp2_with fail
  go_loopw [7, 12] (fun vs vi wr => ∃ (i : Nat) (s : Int), i ≤ n ∧ vi = .int .i64 (i : Int) ∧ vs = .int .i64 s ∧ Hid (s = sumS b l v y i) ∧ -(32 * (i : Int)) ≤ s ∧ s ≤ 32 * (i : Int) ∧ Blk wr w.heap.size 46 (scC u b A n c k).toArray ∧ Below w.heap.size w wr) (fun _ vi _ => n - (intOf vi).toNat)
  case atStart => exact ⟨0, 0, by omega, rfl, rfl, rfl, by omega, by omega, Blk.new _ _ _, alloc_bel _ _⟩
  case round =>
    obtain ⟨i, s, hi, rfl, rfl, HS, s1, s2, hB, hbel⟩ := hrel
    by_cases hin : i < n
    · have hii : (i : Int) < n := by omega
      have hin2 : i < n := hin
      obtain ⟨vb, vo, rfl, hvb, hvc⟩ := (HVR.out.below hbel).at_ (i := i) (by have := HV.out; omega)
      have hx := HW.out i hin
      have HG : Hid (∀ W, Below wr.heap.size wr W → Calls Tryz.prog 134 #[.agg (scC u b A n c k).toArray, .slice Y n d, .int .i64 (i : Int)] W fun e w' => e = .returned (.agg #[.int .i64 (partS b (it l i) 0 (bt y i)), .int .i64 (partS b (it l i) 1 (bt y i))]) ∧ Below W.heap.size W w') := fun W hW =>
        gains_any u b A c l k Y d y i W HN.out HM.out ((H.out.below hbel).below hW) ((HY.out.below hbel).below hW) hin hin ⟨o3, o4⟩ (HO.out i (by have := HN.out; omega)) (HC.out i hin)
      have hp0 := partS_bd (w := 0) (y := bt y i) ⟨o3, o4⟩ (HO.out i (by have := HN.out; omega))
      have hp1 := partS_bd (w := 1) (y := bt y i) ⟨o3, o4⟩ (HO.out i (by have := HN.out; omega))
      have HSS := Lib.hid (sumS_succ b l v y i)
      have HSB2 := Lib.hid (HSB.out (i + 1) (by omega))
      obtain ⟨z, hz⟩ : ∃ z, bt v i = z := ⟨_, rfl⟩
      rw [hz] at hx hvc HSS
      obtain ⟨p0, e0⟩ : ∃ p, partS b (it l i) 0 (bt y i) = p := ⟨_, rfl⟩
      obtain ⟨p1, e1⟩ : ∃ p, partS b (it l i) 1 (bt y i) = p := ⟨_, rfl⟩
      rw [e0] at HG hp0
      rw [e1] at HG hp1
      have E0 := Lib.hid e0
      have E1 := Lib.hid e1
      have HB := Lib.hid hB
      clear hB hz hin e0 e1
      have hz01 : z = 0 ∨ z = 1 := by omega
      rcases hz01 with rfl | rfl
      all_goals
        go_wp2_with (first
          | (refine wpList_load_row rfl 46 (.tmp 3) rfl w.heap.size rfl 46 (scC u b A n c k).toArray (0, 0) _ HB.out Tryz.underlying46 rfl (scC_info u b A n c k HK.out) ?_)
          | (go_at_call 134; refine (HG.out _ (Below.refl _ _)).mono ?_; rintro e w2 ⟨rfl, hb2⟩))
        have hbF := hbel.trans (hb2.mono hbel.size)
        go_roundw
        case rel => exact ⟨i + 1, _, by omega, by go_num, rfl, by unfold Hid; rw [HSS.out, HS.out]; first | rw [E0.out] | rw [E1.out], by omega, by omega, HB.out.below' hb2, hbF⟩
        case measure => simp [intOf]; omega
    · obtain rfl : i = n := by omega
      go_wp2_with fail
      go_ret
      exact ⟨by rw [← HS.out]; rfl, hbel⟩

set_option maxHeartbeats 1000000 in
theorem refPart_any (b a : Int) (x z : Nat) (w : World) (hb : 2 ≤ b ∧ b ≤ 32) (ha : 1 ≤ a ∧ a < b) (hx : x ≤ 255) (hz : z ≤ 255) :
    Calls Tryz.prog 127 #[.int .i64 b, .int .i64 a, .int .u8 (x : Int), .int .u8 (z : Int)] w fun e w' => e = .returned (.int .i64 (partS b a x z)) ∧ w = w' := by
  obtain ⟨hb1, hb2⟩ := hb
  obtain ⟨ha1, ha2⟩ := ha
  have hx1 : (x : Int) ≤ 255 := by omega
  have hz1 : (z : Int) ≤ 255 := by omega
  have hways : z = 2 ∨ (z ≠ 2 ∧ z = 0) ∨ (z ≠ 2 ∧ z ≠ 0) := by omega
  rcases hways with h2 | ⟨h2, h0⟩ | ⟨h2, h0⟩
  · have HS : Hid (partS b a x z = 0) := by unfold Hid; rw [h2]; rfl
    have t1 : ((z : Int) == 2) = true := by simp; omega
    have t1' : (z == 2) = true := by simp; omega
    clear h2
    go_enter Tryz.func127, Tryz.ntmps127
    go_wp2_with fail
    go_ret
    exact ⟨by rw [HS.out]; rfl, rfl⟩
  · subst h0
    have HS : Hid (partS b a x 0 = if x = 0 then a else a - b) := rfl
    clear h2
    by_cases hw : x = 0
    · rw [if_pos hw] at HS
      have t3 : ((x : Int) == 0) = true := by simp; omega
      have t3' : (x == 0) = true := by simp; omega
      clear hw
      go_enter Tryz.func127, Tryz.ntmps127
      go_wp2_with fail
      go_ret
      exact ⟨by rw [HS.out]; rfl, rfl⟩
    · rw [if_neg hw] at HS
      have t3 : ((x : Int) == 0) = false := by simp; omega
      have t3' : (x == 0) = false := by simp; omega
      clear hw
      go_enter Tryz.func127, Tryz.ntmps127
      go_wp2_with fail
      go_ret
      exact ⟨by rw [HS.out]; rfl, rfl⟩
  · have HS : Hid (partS b a x z = if x = z then b - a else -a) := by unfold Hid partS; rw [if_neg h2, if_neg h0]
    have t1 : ((z : Int) == 2) = false := by simp; omega
    have t1' : (z == 2) = false := by simp; omega
    have t2 : ((z : Int) == 0) = false := by simp; omega
    have t2' : (z == 0) = false := by simp; omega
    clear h2 h0
    by_cases hw : x = z
    · rw [if_pos hw] at HS
      have t3 : ((x : Int) == (z : Int)) = true := by simp; omega
      have t3' : (x == z) = true := by simp; omega
      clear hw
      go_enter Tryz.func127, Tryz.ntmps127
      go_wp2_with fail
      go_ret
      exact ⟨by rw [HS.out]; rfl, rfl⟩
    · rw [if_neg hw] at HS
      have t3 : ((x : Int) == (z : Int)) = false := by simp; omega
      have t3' : (x == z) = false := by simp; omega
      clear hw
      go_enter Tryz.func127, Tryz.ntmps127
      go_wp2_with fail
      go_ret
      exact ⟨by rw [HS.out]; rfl, rfl⟩

set_option maxHeartbeats 1000000 in
theorem refScoreOf_any (u b : Int) (A : Option Addr) (c : Nat) (l : List Int) (k : List UInt8) (V : Option Addr) (e : Nat) (v : List UInt8) (Y : Option Addr) (d : Nat) (y : List UInt8) (w : World) {n : Nat} (hn : l.length = n) (hv : v.length = n) (hm : y.length = n) (h : IR w A c l) (hvr : BR w V e v) (hy : BR w Y d y)
    (hok : scoresB u b l = true) :
    Calls Tryz.prog 89 #[.agg (scC u b A n c k).toArray, .slice V n e, .slice Y n d] w fun e w' => e = .returned (.int .i64 (sumS b l v y n)) ∧ Below w.heap.size w w' := by
  obtain ⟨⟨o1, o2, o3, o4, o5, o6⟩, o7⟩ := scoresB_parts hok
  have hnn : (n : Int) ≤ 64 := by omega
  have HN := Lib.hid hn
  have HV := Lib.hid hv
  have HM := Lib.hid hm
  have H := Lib.hid h
  have HVR := Lib.hid hvr
  have HY := Lib.hid hy
  have HO := Lib.hid o7
  have HSB : Hid (∀ j, j ≤ n → -(32 * (j : Int)) ≤ sumS b l v y j ∧ sumS b l v y j ≤ 32 * (j : Int)) := fun j hj => sumS_bd ⟨o3, o4⟩ o7 j (by omega)
  clear hn hv hm h hvr hy hok o5 o6 o7
  go_enter Tryz.func89, Tryz.ntmps89
  go_wp2_with fail
  go_loopw [7, 8] (fun vs vi wr => ∃ (i : Nat) (s : Int), i ≤ n ∧ vi = .int .i64 (i : Int) ∧ vs = .int .i64 s ∧ Hid (s = sumS b l v y i) ∧ -(32 * (i : Int)) ≤ s ∧ s ≤ 32 * (i : Int) ∧ wr.cell? ⟨w.heap.size, 1, none⟩ = some (.int .i64 b) ∧ wr.cell? ⟨w.heap.size, 2, none⟩ = some (.slice A n c) ∧ Below w.heap.size w wr) (fun _ vi _ => n - (intOf vi).toNat)
  case atStart => exact ⟨0, 0, by omega, rfl, rfl, rfl, by omega, by omega, (Blk.new w 46 (scC u b A n c k).toArray).cell 1, (Blk.new w 46 (scC u b A n c k).toArray).cell 2, alloc_bel _ _⟩
  case round =>
    obtain ⟨i, s, hi, rfl, rfl, HS, s1, s2, hc1, hc2, hbel⟩ := hrel
    by_cases hin : i < n
    · have hii : (i : Int) < n := by omega
      obtain ⟨gb, go, rfl, hgb, hgc⟩ := (H.out.below hbel).at_ (i := i) (by have := HN.out; omega)
      obtain ⟨vb, vo, rfl, hvb, hvc⟩ := (HVR.out.below hbel).at_ (i := i) (by have := HV.out; omega)
      obtain ⟨yb, yo, rfl, hyb, hyc⟩ := (HY.out.below hbel).at_ (i := i) (by have := HM.out; omega)
      have hbo := HO.out i (by have := HN.out; omega)
      have hx1 := bt_lt v i
      have hx2 := bt_lt y i
      have HP : Hid (∀ q, Calls Tryz.prog 127 #[.int .i64 b, .int .i64 (it l i), .int .u8 (bt v i : Int), .int .u8 (bt y i : Int)] (wr.drewN q) fun e w' => e = .returned (.int .i64 (partS b (it l i) (bt v i) (bt y i))) ∧ wr.drewN q = w') := fun q => refPart_any b (it l i) (bt v i) (bt y i) _ ⟨o3, o4⟩ hbo (by omega) (by omega)
      have hpb := partS_bd (w := bt v i) (y := bt y i) ⟨o3, o4⟩ hbo
      have HSS := Lib.hid (sumS_succ b l v y i)
      have HSB2 := Lib.hid (HSB.out (i + 1) (by omega))
      obtain ⟨p, hp⟩ : ∃ p, partS b (it l i) (bt v i) (bt y i) = p := ⟨_, rfl⟩
      rw [hp] at HP hpb HSS
      clear hp hin hbo
      generalize it l i = a at *
      generalize bt v i = x at *
      generalize bt y i = z at *
      go_wp2_with fail
      go_quiet ((go_at_call 127; exact quiet_left' (HP.out _)))
      go_wp2_with fail
      go_roundw
      case rel => exact ⟨i + 1, _, by omega, by go_num, rfl, by unfold Hid; rw [HSS.out, HS.out], by omega, by omega, hc1, hc2, below_drewN hbel _⟩
      case measure => simp [intOf]; omega
    · obtain rfl : i = n := by omega
      go_wp2_with fail
      go_ret
      exact ⟨by rw [← HS.out]; rfl, hbel⟩
end Go.Proofs.YtenpkmgbaajeeaaGreat

/- The counts of a code of scores; maps of naturals, more of them. -/
namespace Go.Proofs.YtenpkmgbaajeeaaGreat
open Go.RowKit Go.Maps
set_option linter.unusedVariables false
set_option linter.unusedSimpArgs false

def gA (b : Int) (l : List Int) (y : List UInt8) (j : Nat) : Int := partS b (it l j) 0 (bt y j)
def gB (b : Int) (l : List Int) (y : List UInt8) (j : Nat) : Int := partS b (it l j) 1 (bt y j)
def cA (b : Int) (l : List Int) (j : Nat) : Nat := (b - it l j).toNat
def cB (l : List Int) (j : Nat) : Nat := (it l j).toNat
/-- The words of the first i places with the score s, weighted; those with a score of z or more; all of them. -/
def scnt (b : Int) (l : List Int) (y : List UInt8) (i : Nat) (s : Int) : Nat := countS (gA b l y) (gB b l y) (cA b l) (cB l) i s
def srch (b : Int) (l : List Int) (y : List UInt8) (i : Nat) (z : Int) : Nat := reachS (gA b l y) (gB b l y) (cA b l) (cB l) i z
def sall (b : Int) (l : List Int) (i : Nat) : Nat := allS (cA b l) (cB l) i
def slow (b : Int) (l : List Int) (y : List UInt8) (i : Nat) : Int := lowT (gA b l y) (gB b l y) i
def shigh (b : Int) (l : List Int) (y : List UInt8) (i : Nat) : Int := highT (gA b l y) (gB b l y) i

section
variable {b : Int} {l : List Int} {y : List UInt8}
theorem gA_bd (hb : 2 ≤ b ∧ b ≤ 32) {j : Nat} (hl : 1 ≤ it l j ∧ it l j < b) : -32 ≤ gA b l y j ∧ gA b l y j ≤ 32 := partS_bd hb hl
theorem gB_bd (hb : 2 ≤ b ∧ b ≤ 32) {j : Nat} (hl : 1 ≤ it l j ∧ it l j < b) : -32 ≤ gB b l y j ∧ gB b l y j ≤ 32 := partS_bd hb hl
theorem score_bds (hb : 2 ≤ b ∧ b ≤ 32) (hl : ∀ j, j < l.length → 1 ≤ it l j ∧ it l j < b) {i : Nat} (hi : i ≤ l.length) : -(32 * (i : Int)) ≤ slow b l y i ∧ shigh b l y i ≤ 32 * (i : Int) :=
  low_bd (gA b l y) (gB b l y) (k := 32) fun j hj => by
    have h1 := gA_bd (y := y) hb (hl j (by omega))
    have h2 := gB_bd (y := y) hb (hl j (by omega))
    exact ⟨by omega, by omega, by omega, by omega⟩
theorem scnt_in (hb : 2 ≤ b ∧ b ≤ 32) (hl : ∀ j, j < l.length → 1 ≤ it l j ∧ it l j < b) {i : Nat} (hi : i ≤ l.length) {s : Int} (h : scnt b l y i s ≠ 0) : -(32 * (i : Int)) ≤ s ∧ s ≤ 32 * (i : Int) := by
  have h1 := score_bds (y := y) hb hl hi
  have h2 := count_in (gA b l y) (gB b l y) (cA b l) (cB l) h
  have h3 := h1.1
  have h4 := h1.2
  unfold slow at h3
  unfold shigh at h4
  omega
theorem sall_pow (hb : 2 ≤ b ∧ b ≤ 32) (hl : ∀ j, j < l.length → 1 ≤ it l j ∧ it l j < b) {i : Nat} (hi : i ≤ l.length) : sall b l i = b.toNat ^ i :=
  all_pow (cA b l) (cB l) fun j hj => by
    have := hl j (by omega)
    unfold cA cB
    omega
theorem sall_le (hb : 2 ≤ b ∧ b ≤ 32) (hl : ∀ j, j < l.length → 1 ≤ it l j ∧ it l j < b) {i : Nat} (hi : i ≤ l.length) (hn : l.length ≤ 64) : sall b l i ≤ 32 ^ 64 := by
  rw [sall_pow hb hl hi]
  exact Nat.le_trans (Nat.pow_le_pow_left (show b.toNat ≤ 32 by omega) i) (Nat.pow_le_pow_right (by omega) (by omega))
theorem sall_pos (hb : 2 ≤ b ∧ b ≤ 32) (hl : ∀ j, j < l.length → 1 ≤ it l j ∧ it l j < b) {i : Nat} (hi : i ≤ l.length) : 0 < sall b l i := by
  rw [sall_pow hb hl hi]
  exact Nat.pow_pos (by omega)
theorem sall_succ (hb : 2 ≤ b ∧ b ≤ 32) (hl : ∀ j, j < l.length → 1 ≤ it l j ∧ it l j < b) {i : Nat} (hi : i < l.length) : sall b l i * b.toNat = sall b l (i + 1) := by
  rw [sall_pow hb hl hi, sall_pow hb hl (Nat.le_of_lt hi), Nat.pow_succ]
end
theorem sm12 {n : Nat} (h : n ≤ 32 ^ 64) : (digs n).length ≤ 12 := digs_len_le (k := 12) (Nat.lt_of_le_of_lt h (by decide +kernel))
theorem sm_wide {n k : Nat} (h : n ≤ 32 ^ 64) (hk : k ≤ 1000) : Sm (n * k) := digs_len_le (k := 16) (Nat.lt_of_le_of_lt (Nat.mul_le_mul h hk) (by decide +kernel))
theorem sm_allS {n : Nat} (h : n ≤ 32 ^ 64) : Sm n := Nat.le_trans (sm12 h) (by omega)

theorem len_keysI : ∀ (m : Nat) (lo : Int) (es : List (Lit × DataW Value)), es.Pairwise (fun p q => p.1 ≠ q.1) → (∀ p ∈ es, ∃ x : Nat, x < m ∧ p.1 = .int .i64 (lo + (x : Int))) → es.length ≤ m
  | 0, lo, es, _, h => by
    cases es with
    | nil => exact Nat.le_refl _
    | cons p r => obtain ⟨x, hx, _⟩ := h p (by simp); omega
  | m + 1, lo, es, hp, h => by
    have h1 := length_strike (k := .int .i64 (lo + (m : Int))) es hp
    have h2 := len_keysI m lo (es.filter fun p => !p.1.sameKey (.int .i64 (lo + (m : Int)))) (hp.filter _) fun p hpm => by
      rw [List.mem_filter] at hpm
      obtain ⟨x, hx, e⟩ := h p hpm.1
      refine ⟨x, ?_, e⟩
      have h3 := hpm.2
      rw [e, sameKey_int] at h3
      simp at h3
      omega
    split at h1 <;> omega
section
variable {P : Program} {k : TypeId} {w w' : World} {b n : Nat} {f : Int → Option Value}
theorem MF.tightI {m : Nat} {lo : Int} (K : Keyed P k) (hk : P.underlying k = some (.int .i64)) (h : MF P k w b n f) (hf : ∀ s, (Lit.int .i64 s).wf = true → f s ≠ none → lo ≤ s ∧ s < lo + (m : Int)) : MF P k w b m f := by
  obtain ⟨D, h1, h2⟩ := h
  obtain ⟨es0, hD0, hp, _⟩ := h1.entries K
  obtain ⟨es, clock, hb, F, hs, hD⟩ := h1
  have hl : ((es.toList.map (WideElems.rg P k heldE)).foldr DataW.insert []).length = es.size := length_read es
  have e0 : es0 = (es.toList.map (WideElems.rg P k heldE)).foldr DataW.insert [] := by rw [hD0] at hD; injection hD
  refine ⟨D, ⟨es, clock, hb, F, ?_, hD⟩, h2⟩
  rw [← hl, ← e0]
  refine len_keysI m lo es0 hp fun p hpm => ?_
  rw [e0, mem_sorted] at hpm
  obtain ⟨x, hx, rfl⟩ := List.mem_map.1 hpm
  obtain ⟨y, hy⟩ := F.reads x hx
  obtain ⟨z, _, ez, hz⟩ := Maps.keyOf_int_inv hk (WideElems.rd_key hy)
  rw [WideElems.rg_of hy]
  have hh : Maps.has D (.int .i64 z) = true := by
    rw [hD]
    exact List.any_eq_true.2 ⟨_, mem_sorted.2 (List.mem_map.2 ⟨x, hx, rfl⟩), by rw [WideElems.rg_of hy, ez, sameKey_int]; simp⟩
  have ha := (h2 z hz).1
  rw [hh] at ha
  have hne : f z ≠ none := fun e => by rw [e] at ha; cases ha
  obtain ⟨g1, g2⟩ := hf z hz hne
  exact ⟨(z - lo).toNat, by omega, by rw [ez]; congr 1; omega⟩
end
/-- A map of naturals has no more entries than scores that there may be. -/
theorem NM.fit {w : World} {b n : Nat} {h : Int → Nat} {lo hi : Int} (hm : NM w b n h lo hi) (h1 : -2100 ≤ lo) (h2 : hi ≤ 2100) : NM w b 5000 h lo hi := by
  obtain ⟨f, h3, h4⟩ := hm
  refine ⟨f, h3.tightI (lo := -2100) intKey Tryz.underlying3 fun s hs hne => ?_, h4⟩
  have := (h4 s hs).2 hne
  omega
theorem NM.congr {w : World} {b n : Nat} {h h' : Int → Nat} {lo hi : Int} (hm : NM w b n h lo hi) (he : ∀ t, (Lit.int .i64 t).wf = true → h t = h' t) : NM w b n h' lo hi := by
  obtain ⟨f, h3, h4⟩ := hm
  exact ⟨f, h3, fun s hs => by rw [← he s hs]; exact h4 s hs⟩
theorem NM.wider {w : World} {b n : Nat} {h : Int → Nat} {lo hi lo' hi' : Int} (hm : NM w b n h lo hi) (h1 : lo' ≤ lo) (h2 : hi ≤ hi') : NM w b n h lo' hi' := by
  obtain ⟨f, h3, h4⟩ := hm
  exact ⟨f, h3, fun s hs => ⟨(h4 s hs).1, fun hne => by have := (h4 s hs).2 hne; omega⟩⟩
theorem NM.mf {w : World} {b n : Nat} {h : Int → Nat} {lo hi : Int} (hm : NM w b n h lo hi) : ∃ f, MF Tryz.prog 3 w b n f := by obtain ⟨f, h3, _⟩ := hm; exact ⟨f, h3⟩
theorem NM.lt {w : World} {b n : Nat} {h : Int → Nat} {lo hi : Int} (hm : NM w b n h lo hi) : b < w.heap.size := by obtain ⟨f, h3⟩ := hm.mf; exact h3.lt
theorem NM.below {w w' : World} {b n : Nat} {h : Int → Nat} {lo hi : Int} (hm : NM w b n h lo hi) (hb : Below w.heap.size w w') : NM w' b n h lo hi := by
  obtain ⟨f, h3, h4⟩ := hm
  exact ⟨f, h3.below hb, fun s hs => ⟨(h4 s hs).1.below hb, (h4 s hs).2⟩⟩
theorem NM.empty {w : World} {b n : Nat} {lo hi : Int} (h : MF Tryz.prog 3 w b n (fun _ => none)) : NM w b n (fun _ => 0) lo hi := ⟨_, h, fun s _ => ⟨.inl ⟨rfl, rfl⟩, fun h => absurd rfl h⟩⟩
/-- Slices and maps are kept where only a block of cells changes that they do not lie in. -/
theorem NR.grownR {w w' : World} {A : Option Addr} {c p : Nat} {l : List Nat} (h : NR w A c l) (hg : w.grownBy w' (some p)) (hp : ∀ b off, A = some ⟨b, off, none⟩ → b ≠ p) : NR w' A c l :=
  h.grown_ (fun hl b' off hA e => hp b' off hA (Option.some.inj e).symm) hg
theorem NV.grownM {w w' : World} {v : Option Value} {x b n : Nat} {f : Int → Option Value} (h : NV w v x) (hm : MF Tryz.prog 3 w b n f) (hg : w.grownBy w' (some b)) : NV w' v x := h.imp id fun ⟨A, c, e, hn⟩ => ⟨A, c, e, hn.grownM hm hg⟩
theorem Blk.grownM {w w' : World} {g b : Nat} {t : TypeId} {cs : Array Value} (h : Blk w g t cs) (hg : w.grownBy w' (some b)) (hne : g ≠ b) : Blk w' g t cs := (hg.block g h.lt (by simpa using hne)).trans h
theorem Blk.ne_map {w : World} {g b n : Nat} {t : TypeId} {cs : Array Value} {f : Int → Option Value} (h : Blk w g t cs) (hm : MF Tryz.prog 3 w b n f) : g ≠ b := by
  rintro rfl
  obtain ⟨D, ⟨es, clock, hh, _⟩, _⟩ := hm
  unfold Blk at h
  rw [hh] at h
  cases h
theorem MF.noCells {w : World} {b n : Nat} {f : Int → Option Value} (hm : MF Tryz.prog 3 w b n f) (i : Nat) : w.cell? ⟨b, i, none⟩ = none := by
  obtain ⟨D, ⟨es, clock, hh, _⟩, _⟩ := hm
  simp [World.cell?, hh]
theorem MFR.noCells {w : World} {b r n cnt : Nat} {f : Int → Option Value} {left : Int → Bool} (hm : MFR Tryz.prog 3 w b r n f left cnt) (i : Nat) : w.cell? ⟨r, i, none⟩ = none := by
  obtain ⟨D, l, ⟨es, clock, since, seen, c0, _, _, _, _, hr, _⟩, _⟩ := hm
  simp [World.cell?, hr]
theorem NR.grownN {w w' : World} {A : Option Addr} {c p : Nat} {l : List Nat} (h : NR w A c l) (hg : w.grownBy w' (some p)) (hp : ∀ i, w.cell? ⟨p, i, none⟩ = none) : NR w' A c l :=
  h.grown_ (fun hl b' off hA e => by
    obtain ⟨bb, oo, hA2, _, hc⟩ := h.2.2.2 hl
    have hbb : p = bb := by
      rw [hA] at hA2
      injection hA2 with hA2
      injection hA2 with h1 _
      rw [← h1]
      exact Option.some.inj e
    subst hbb
    have := hc 0 (List.length_pos_iff.2 hl)
    rw [hp] at this
    cases this) hg
theorem NV.grownN {w w' : World} {v : Option Value} {x p : Nat} (h : NV w v x) (hg : w.grownBy w' (some p)) (hp : ∀ i, w.cell? ⟨p, i, none⟩ = none) : NV w' v x := h.imp id fun ⟨A, c, e, hn⟩ => ⟨A, c, e, hn.grownN hg hp⟩
theorem Blk.ne_no {w : World} {g p : Nat} {t : TypeId} {cs : Array Value} (h : Blk w g t cs) (hs : 0 < cs.size) (hp : ∀ i, w.cell? ⟨p, i, none⟩ = none) : g ≠ p := by
  rintro rfl
  have := h.cell 0
  rw [hp, Array.getElem?_eq_getElem hs] at this
  cases this
theorem cell_grown {w w' : World} {g o b : Nat} {v : Value} (h : w.cell? ⟨g, o, none⟩ = some v) (hg : w.grownBy w' (some b)) (hne : g ≠ b) : w'.cell? ⟨g, o, none⟩ = some v := by
  rw [← h]
  exact World.cell?_of_block (hg.block g (World.block_lt_of_cell? _ _ h) (by simpa using hne))
end Go.Proofs.YtenpkmgbaajeeaaGreat

/- The spread of a copy: the counts of all scores, and their sum. -/
namespace Go.Proofs.YtenpkmgbaajeeaaGreat
open Go.RowKit Go.Maps
set_option linter.unusedVariables false
set_option linter.unusedSimpArgs false

theorem grown_setCell (w : World) (a : Addr) (u : Value) : w.grownBy (w.setCell a u) (some a.block) :=
  ⟨rfl, rfl, rfl, by simp, fun k hk hne => Below.heap_setCell w a u k (by simpa using hne)⟩
theorem below_of_grown {w w' : World} (h : w.grownBy w' none) : Below w.heap.size w w' := (Below.refl _ _).grown h (Nat.le_refl _) (fun k hk => by cases hk)
/-- What a spread's map holds. -/
def SV (b : Int) (l : List Int) (y : List UInt8) (i : Nat) (w : World) (f : Int → Option Value) : Prop := ∀ s, (Lit.int .i64 s).wf = true → NV w (f s) (scnt b l y i s) ∧ (f s ≠ none → -(32 * (i : Int)) ≤ s ∧ s ≤ 32 * (i : Int))
/-- A block of a map and a slice is no number's. -/
theorem Blk.no_int {w : World} {g : Nat} {t : TypeId} {x : Option Nat} {a : Option Addr} {n c : Nat} (h : Blk w g t #[.map x, .slice a n c]) {o : Nat} {k : IntKind} {z : Int} (hc : w.cell? ⟨g, o, none⟩ = some (.int k z)) : False := by
  rw [h.cell] at hc
  match o, hc with
  | 0, hc => simp at hc
  | 1, hc => simp at hc
  | o + 2, hc => simp at hc
theorem NR.keep2 {w : World} {g : Nat} {t : TypeId} {x : Option Nat} {a A : Option Addr} {n c cc : Nat} {l : List Nat} (hn : NR w A cc l) (h : Blk w g t #[.map x, .slice a n c]) (o : Nat) (u : Value) : NR (w.setCell ⟨g, o, none⟩ u) A cc l :=
  hn.grown_ (fun hl b' off hA e => by
    obtain ⟨bb, oo, hA2, _, hc⟩ := hn.2.2.2 hl
    have hbb : g = bb := by
      rw [hA] at hA2
      injection hA2 with hA2
      injection hA2 with h1 _
      rw [← h1]
      exact Option.some.inj e
    subst hbb
    have := hc 0 (List.length_pos_iff.2 hl)
    exact h.no_int this) (grown_setCell w ⟨g, o, none⟩ u)
theorem NV.keep2 {w : World} {g : Nat} {t : TypeId} {x : Option Nat} {a : Option Addr} {n c k : Nat} {v : Option Value} (hn : NV w v k) (h : Blk w g t #[.map x, .slice a n c]) (o : Nat) (u : Value) : NV (w.setCell ⟨g, o, none⟩ u) v k := hn.imp id fun ⟨A, c', e, h'⟩ => ⟨A, c', e, h'.keep2 h o u⟩
theorem NM.keep2 {w : World} {g : Nat} {t : TypeId} {x : Option Nat} {a : Option Addr} {n c k b : Nat} {f : Int → Nat} {lo hi : Int} (hn : NM w b k f lo hi) (h : Blk w g t #[.map x, .slice a n c]) (o : Nat) (u : Value) : NM (w.setCell ⟨g, o, none⟩ u) b k f lo hi := by
  obtain ⟨F, hm, hv⟩ := hn
  exact ⟨F, hm.kept (grown_setCell w ⟨g, o, none⟩ u) (by simpa using (h.ne_map hm).symm), fun s hs => ⟨(hv s hs).1.keep2 h o u, (hv s hs).2⟩⟩
theorem SV.start {b : Int} {l : List Int} {y : List UInt8} {w w2 : World} {O : Option Addr} {o bm : Nat} (hm : MF Tryz.prog 3 w bm 0 (fun _ => none)) (hm2 : MF Tryz.prog 3 w2 bm 1 (putF (fun _ => none) 0 (.slice O (digs (sall b l 0)).length o))) (hg : w.grownBy w2 (some bm)) (hn : NR w O o (digs (sall b l 0))) : NM w2 bm 5000 (scnt b l y 0) 0 0 := by
  refine NM.fit (n := 1) ⟨_, hm2, fun s hs => ?_⟩ (by omega) (by omega)
  unfold putF
  by_cases e : s = 0
  · subst e
    rw [if_pos rfl]
    exact ⟨.inr ⟨O, o, rfl, hn.grownM hm hg⟩, fun _ => by omega⟩
  · rw [if_neg e]
    exact ⟨.inl ⟨rfl, by show (if s = 0 then 1 else 0) = 0; rw [if_neg e]⟩, fun h => absurd rfl h⟩

set_option maxHeartbeats 16000000 in
set_option maxRecDepth 1000000 in
theorem spreadOf_any (u b : Int) (A : Option Addr) (c : Nat) (l : List Int) (k : List UInt8) (Y : Option Addr) (d : Nat) (y : List UInt8) (w : World) {n : Nat} (hn : l.length = n) (hm : y.length = n) (h : IR w A c l) (hy : BR w Y d y) (hk : k.length = 16)
    (hok : scoresB u b l = true) (hyc : ∀ i, i < n → bt y i ≤ 2) :
    Calls Tryz.prog 126 #[.agg (scC u b A n c k).toArray, .slice Y n d] w fun e w' => (∃ bm M m, e = .returned (.agg #[.map (some bm), .slice M (digs (sall b l n)).length m]) ∧ NM w' bm 5000 (scnt b l y n) (-2048) 2048 ∧ NR w' M m (digs (sall b l n))) ∧ Below w.heap.size w w' := by
  have mixed : Tryz.prog.follows Departure.mixedOrders = true := by kernel_rfl
  obtain ⟨⟨o1, o2, o3, o4, o5, o6⟩, o7⟩ := scoresB_parts hok
  have hnn : (n : Int) ≤ 64 := by omega
  have HN := Lib.hid hn
  have HM := Lib.hid hm
  have H := Lib.hid h
  have HY := Lib.hid hy
  have HK := Lib.hid hk
  have HO := Lib.hid o7
  have HC := Lib.hid hyc
  have HIN : Hid (∀ A, (Tryz.prog.info? 46).map (·.size) = some (scC u b A n c k).toArray.size) := fun A => scC_info u b A n c k hk
  have HSA : Hid (∀ i, i ≤ n → sall b l i ≤ 32 ^ 64) := fun i hi => sall_le ⟨o3, o4⟩ o7 (by omega) (by omega)
  have HCI : Hid (∀ i s, i ≤ n → scnt b l y i s ≠ 0 → -(32 * (i : Int)) ≤ s ∧ s ≤ 32 * (i : Int)) := fun i s hi hs => scnt_in ⟨o3, o4⟩ o7 (by omega) hs
  have HSS : Hid (∀ i, i < n → sall b l i * b.toNat = sall b l (i + 1)) := fun i hi => sall_succ ⟨o3, o4⟩ o7 (by omega)
  have HO1 : Hid (∀ W, Calls Tryz.prog 157 #[] W fun e w' => (∃ O o, e = .returned (.slice O (digs (sall b l 0)).length o) ∧ NF W.heap.size w' O o (digs (sall b l 0))) ∧ Below W.heap.size W w') := fun W => one_any W
  have HMU : Hid (∀ (A : Option Addr) n c W, Calls Tryz.prog 107 #[.slice A n c, .int .i64 0] W fun e w' => e = .returned (.slice A n c) ∧ Below W.heap.size W w') := fun A n c W => must_any A n c 0 W
  obtain ⟨lb, hlb⟩ : ∃ lb, (digs b.toNat).length = lb := ⟨_, rfl⟩
  have HOF : Hid (∀ W, Calls Tryz.prog 159 #[.int .u64 b] W fun e w' => (∃ O o, e = .returned (.slice O lb o) ∧ NR w' O o (digs b.toNat)) ∧ Below W.heap.size W w') := fun W => by
    have := ofD_any b.toNat W (by omega)
    rwa [show ((b.toNat : Nat) : Int) = b from by omega, hlb] at this
  have ewb : IntKind.u64.wrap b = b := by rw [IntKind.wrap_u64]; omega
  have HLB := Lib.hid hlb
  have hmm := @run_makeMap Tryz.prog
  obtain ⟨W0, hW0⟩ : ∃ W : World, W = (w.alloc (.cells (scC u b A n c k).toArray 46)).alloc (.cells #[.map none, .slice none 0 0] 122) := ⟨_, rfl⟩
  have b0 : Hid (Below w.heap.size w W0) := by unfold Hid; rw [hW0]; exact alloc2_bel _ _ _
  have x0 : Hid (Blk W0 w.heap.size 46 (scC u b A n c k).toArray) := by unfold Hid; rw [hW0]; exact blk_b0 w _ _ _
  have y0 : Hid (Blk W0 (w.heap.size + 1) 122 #[.map none, .slice none 0 0]) := by unfold Hid; rw [hW0]; exact blk_b1 w _ _ _
  have HW0 := Lib.hid hW0
  clear hn hm h hy hk hok hyc o5 o6 o7 hW0 hlb
  go_enter Tryz.func126, Tryz.ntmps126
  go_wp2_with (rw [← HW0.out])
  refine (HO1.out _).mono ?_
  rintro e w1 ⟨⟨O, o, rfl, ho⟩, hb1⟩
  have M1 : Hid (MF Tryz.prog 3 w1 W0.heap.size 0 (fun _ => none)) := (MF.made W0 _ _).below hb1
  have E1 : Hid (Below W0.heap.size W0 w1) := (alloc_bel W0 (.map #[] 0)).trans (hb1.mono (by simp))
  have HOA := Lib.hid ho
  clear hb1 ho
  go_wp2_with (first
    | (refine wpList_insert_mf _ rfl (.tmp 13) _ _ 120 rfl 3 25 intKey Tryz.underlying3 Tryz.underlying120 W0.heap.size 0 (fun _ => none) rfl M1.out (by unfold maxLen; omega) 0 (.slice O (digs (sall b l 0)).length o) rfl rfl (by decide) ?_; intro w2 hm2 hg2; have M2 : Hid (NM w2 W0.heap.size 5000 (scnt b l y 0) 0 0) := SV.start M1.out hm2 hg2 HOA.out.1; have E2 : Hid (Below W0.heap.size W0 w2) := E1.out.grown hg2 E1.out.size (fun j hj => by cases hj; exact Nat.le_refl _); clear hm2 hg2))
  refine (HO1.out _).mono ?_
  rintro e w3 ⟨⟨O2, o2', rfl, ho2⟩, hb3⟩
  have M3 : Hid (NM w3 W0.heap.size 5000 (scnt b l y 0) 0 0) := M2.out.below hb3
  have E3 : Hid (Below W0.heap.size W0 w3) := bel_on E2.out hb3
  have N3 : Hid (NR w3 O2 o2' (digs (sall b l 0))) := ho2.1
  have HP5 : Hid (w.heap.size + 1 < w3.heap.size) := by
    have h1 := y0.out.lt
    have h2 := E3.out.size
    unfold Hid; omega
  clear hb3 ho2
  obtain ⟨w4, hw4⟩ : ∃ W : World, W = w3.alloc (.cells #[.map (some W0.heap.size), .slice O2 (digs (sall b l 0)).length o2'] 122) := ⟨_, rfl⟩
  have x4 : Hid (Blk w4 w3.heap.size 122 #[.map (some W0.heap.size), .slice O2 (digs (sall b l 0)).length o2']) := by unfold Hid; rw [hw4]; exact Blk.new _ _ _
  have d4 : Hid (Below w3.heap.size w3 w4) := by unfold Hid; rw [hw4]; exact alloc_bel _ _
  have HW4 := Lib.hid hw4
  have HX3 : Hid (∀ W, Below w3.heap.size w3 W → Blk W w.heap.size 46 (scC u b A n c k).toArray) := fun W hW => (x0.out.below' (E3.out.trans (hW.mono E3.out.size)))
  have HBW : Hid (∀ W, Below w3.heap.size w3 W → Below w.heap.size w W) := fun W hW => bel_on (bel_on b0.out E3.out) hW
  have HC2 : Hid (∀ W, Below w3.heap.size w3 W → W.cell? ⟨w.heap.size, 1, none⟩ = some (.int .i64 b) ∧ W.cell? ⟨w.heap.size, 2, none⟩ = some (.slice A n c)) := fun W hW => ⟨(HX3.out W hW).cell 1, (HX3.out W hW).cell 2⟩
  have HY3 : Hid (∀ W, Below w3.heap.size w3 W → Blk W (w.heap.size + 1) 122 #[.map none, .slice none 0 0]) := fun W hW => (y0.out.below' (E3.out.trans (hW.mono E3.out.size)))
  have cc := (HC2.out _ d4.out).2
  clear hw4
  go_wp2_with (rw [← HW4.out])
  clear cc
  go_loopw [21] (fun vi wr => ∃ (i bm m : Nat) (M : Option Addr), i ≤ n ∧ vi = .int .i64 (i : Int) ∧ Hid (Blk wr w3.heap.size 122 #[.map (some bm), .slice M (digs (sall b l i)).length m]) ∧ Hid (NM wr bm 5000 (scnt b l y i) (-(32 * (i : Int))) (32 * (i : Int))) ∧ Hid (NR wr M m (digs (sall b l i))) ∧ Below w3.heap.size w3 wr) (fun vi _ => n - (intOf vi).toNat)
  case atStart => exact ⟨0, _, _, _, by omega, rfl, x4.out, (M3.out.below d4.out).wider (by omega) (by omega), N3.out.below d4.out, d4.out⟩
  case round =>
    obtain ⟨i, bm, m, M, hi, rfl, HBS, HNM, HNR, hbel⟩ := hrel
    by_cases hin : i < n
    · have hii : (i : Int) < n := by omega
      have hlt := HO.out i (by have := HN.out; omega)
      obtain ⟨gb, go, rfl, hgb, hgc⟩ := (H.out.below (HBW.out _ hbel)).at_ (i := i) (by have := HN.out; omega)
      have hp0 := gA_bd (y := y) ⟨o3, o4⟩ hlt
      have hp1 := gB_bd (y := y) ⟨o3, o4⟩ hlt
      have HG : Hid (∀ W, Below wr.heap.size wr W → Calls Tryz.prog 134 #[.agg (scC u b (some ⟨gb, go, none⟩) n c k).toArray, .slice Y n d, .int .i64 (i : Int)] W fun e w' => e = .returned (.agg #[.int .i64 (gA b l y i), .int .i64 (gB b l y i)]) ∧ Below W.heap.size W w') := fun W hW =>
        gains_any u b (some ⟨gb, go, none⟩) c l k Y d y i W HN.out HM.out ((H.out.below (HBW.out _ hbel)).below hW) ((HY.out.below (HBW.out _ hbel)).below hW) hin hin ⟨o3, o4⟩ hlt (HC.out i hin)
      obtain ⟨a1, ha1⟩ : ∃ a1 : Nat, it l i = (a1 : Int) := ⟨(it l i).toNat, by omega⟩
      obtain ⟨a0, ha0⟩ : ∃ a0 : Nat, b - it l i = (a0 : Int) := ⟨(b - it l i).toNat, by omega⟩
      have ECA : Hid (cA b l i = a0) := by unfold Hid cA; rw [ha0]; simp
      have ECB : Hid (cB l i = a1) := by unfold Hid cB; rw [ha1]; simp
      rw [ha1] at hgc ha0 hlt
      have e49 : IntKind.i64.wrap (b - (a1 : Int)) = (a0 : Int) := by rw [IntKind.wrap_i64]; omega
      have ha32 : (a0 : Int) ≤ 32 ∧ (a1 : Int) ≤ 32 := by omega
      obtain ⟨hl1, hl2⟩ := hlt
      obtain ⟨h321, h322⟩ := ha32
      obtain ⟨p0, hq0⟩ : ∃ p, gA b l y i = p := ⟨_, rfl⟩
      obtain ⟨p1, hq1⟩ : ∃ p, gB b l y i = p := ⟨_, rfl⟩
      have EP0 := Lib.hid hq0
      have EP1 := Lib.hid hq1
      rw [hq0] at HG hp0
      rw [hq1] at HG hp1
      obtain ⟨hp00, hp01⟩ := hp0
      obtain ⟨hp10, hp11⟩ := hp1
      have HX1 := Lib.hid (HX3.out _ hbel)
      obtain ⟨f, hmf, hv⟩ := HNM.out
      have HMF := Lib.hid hmf
      have HV := Lib.hid hv
      obtain ⟨li, hli⟩ : ∃ li, (digs (sall b l i)).length = li := ⟨_, rfl⟩
      rw [hli] at HBS
      have HLI := Lib.hid hli
      have HIX : Hid (i ≤ n) := hi
      have HIN1 := Lib.hid hin
      have hi64 : (i : Int) ≤ 63 := by omega
      clear hq0 hq1 ha1 hmf hv hli
      go_wp2_with (first
        | (refine wpList_load_row rfl 46 (.tmp 2) rfl w.heap.size rfl 46 (scC u b (some ⟨gb, go, none⟩) n c k).toArray (0, 0) _ HX1.out Tryz.underlying46 rfl (HIN.out _) ?_)
        | (go_at_call 134; (with_reducible refine (HG.out _ (Below.refl _ _)).mono ?_); rintro e w5 ⟨rfl, hb5⟩; obtain ⟨wm, hwm⟩ : ∃ W, W = ((w5.alloc (.cells #[.int .i64 p0, .int .i64 p1] 176)).alloc (.map #[] 0)).alloc (.cells #[.map (some (w5.heap.size + 1))] 120) := ⟨_, rfl⟩; have HWM := Lib.hid hwm; have dm : Below w5.heap.size w5 wm := (by rw [hwm]; exact alloc3_bel _ _ _ _); have DW : Hid (Below wr.heap.size wr wm) := bel_on hb5 dm; have DM : Hid (Below w3.heap.size w3 wm) := bel_on hbel DW.out; have B8 : Hid (Blk wm w5.heap.size 176 #[.int .i64 p0, .int .i64 p1]) := (by unfold Hid; rw [hwm]; exact blk_a0 _ _ _ _ _); have M8 : Hid (MF Tryz.prog 3 wm (w5.heap.size + 1) 0 (fun _ => none)) := (by unfold Hid; rw [hwm]; have := (MF.made (w5.alloc (.cells #[.int .i64 p0, .int .i64 p1] 176)) Tryz.prog 3).below (alloc_bel _ (.cells #[.map (some (w5.heap.size + 1))] 120)); simpa using this); have B9 : Hid (Blk wm (w5.heap.size + 2) 120 #[.map (some (w5.heap.size + 1))]) := (by unfold Hid; rw [hwm]; exact blk_a2 _ _ _ _ _); have B5 := Lib.hid (HBS.out.below' DW.out); have c50 := B5.out.cell 0; have S5 : Hid (w3.heap.size ≤ w5.heap.size ∧ w5.heap.size + 3 ≤ wm.heap.size ∧ bm < w5.heap.size) := (by unfold Hid; exact ⟨Nat.le_trans hbel.size hb5.size, by rw [hwm]; simp, Nat.lt_of_lt_of_le HNM.out.lt hb5.size⟩); clear dm hb5 hwm)
        | (rw [← HWM.out])
        | (at_range; refine wpList_range_mf _ rfl _ 120 rfl 3 25 intKey Tryz.underlying120 bm 5000 f rfl (HMF.out.below DW.out) ?_; intro w6 cnt6 hr6 hg6 hs6))
      have R6 := Lib.hid hr6
      have D6 : Hid (Below w3.heap.size w3 w6) := DM.out.grown hg6 DM.out.size (fun j hj => by cases hj)
      have V6 : Hid (SV b l y i w6 f) := fun s hs => ⟨((HV.out s hs).1.below DW.out).below (below_of_grown hg6), (HV.out s hs).2⟩
      have N6 : Hid (NM w6 (w5.heap.size + 1) 5000 (partW (gA b l y) (gB b l y) (cA b l) (cB l) i (fun s => (f s).isSome)) (-(32 * ((i + 1 : Nat) : Int))) (32 * ((i + 1 : Nat) : Int))) := by
        refine ((NM.empty (M8.out.below (below_of_grown hg6))).fit (by omega) (by omega)).congr fun t ht => ?_
        refine (partW_zero (gA b l y) (gB b l y) (cA b l) (cB l) fun s hs => ?_).symm
        have hb := HCI.out i s HIX.out hs
        have hwf : (Lit.int .i64 s).wf = true := WalkArith.wf_i64 (by omega)
        rcases (HV.out s hwf).1 with ⟨h1, h2⟩ | ⟨A, c, h1, h2⟩
        · exact absurd h2 hs
        · rw [h1]; rfl
      have P6 := Lib.hid (B8.out.below' (below_of_grown hg6))
      have Q6 := Lib.hid (B9.out.below' (below_of_grown hg6))
      have B6 := Lib.hid (B5.out.below' (below_of_grown hg6))
      have L6 : Hid (NR w6 M m (digs (sall b l i))) := (HNR.out.below DW.out).below (below_of_grown hg6)
      clear hr6 hg6 hs6 c50
      try go_frame
      go_loopw [11] (fun _ wr => ∃ (left : Int → Bool) (cnt : Nat), Hid (MFR Tryz.prog 3 wr bm wm.heap.size 5000 f left cnt) ∧ Hid (SV b l y i wr f) ∧ Hid (NM wr (w5.heap.size + 1) 5000 (partW (gA b l y) (gB b l y) (cA b l) (cB l) i left) (-(32 * ((i + 1 : Nat) : Int))) (32 * ((i + 1 : Nat) : Int))) ∧ Hid (Blk wr w5.heap.size 176 #[.int .i64 p0, .int .i64 p1]) ∧ Hid (Blk wr (w5.heap.size + 2) 120 #[.map (some (w5.heap.size + 1))]) ∧ Hid (Blk wr w3.heap.size 122 #[.map (some bm), .slice M li m]) ∧ Hid (NR wr M m (digs (sall b l i))) ∧ Below w3.heap.size w3 wr) (fun _ w' => w'.rangeLeft bm wm.heap.size)
      case atStart => exact ⟨_, cnt6, R6.out, V6.out, N6.out, P6.out, Q6.out, B6.out, L6.out, D6.out⟩
      case round =>
        clear D6 R6 V6 N6 P6 Q6 B6 L6
        obtain ⟨left, cnt, HR, HSV, HNX, HP8, HP9, HB5, HL, hbelI⟩ := hrel
        go_wp2_with (first
          | (at_next; refine wpList_next_mf _ rfl _ rfl 3 intKey Tryz.underlying3 bm wm.heap.size 5000 _ _ _ rfl HR.out ?_ ?_))
        · intro hl0
          have NX : Hid (NM wr (w5.heap.size + 1) 5000 (scnt b l y (i + 1)) (-(32 * ((i + 1 : Nat) : Int))) (32 * ((i + 1 : Nat) : Int))) := HNX.out.congr fun t ht => partW_fin (gA b l y) (gB b l y) (cA b l) (cB l) fun s hs => by
            have hb := HCI.out i s HIX.out hs
            exact hl0 s (WalkArith.wf_i64 (by omega))
          have c90 := HP9.out.cell 0
          have c50 := HB5.out.cell 0
          have f50 := HB5.out.frozen 0
          obtain ⟨wA, hwA⟩ : ∃ W, W = wr.setCell ⟨w3.heap.size, 0, none⟩ (.map (some (w5.heap.size + 1))) := ⟨_, rfl⟩
          have BA : Hid (Blk wA w3.heap.size 122 #[.map (some (w5.heap.size + 1)), .slice M li m]) := by unfold Hid; rw [hwA]; exact HB5.out.set_ 0 _
          have NA : Hid (NM wA (w5.heap.size + 1) 5000 (scnt b l y (i + 1)) (-(32 * ((i + 1 : Nat) : Int))) (32 * ((i + 1 : Nat) : Int))) := by unfold Hid; rw [hwA]; exact NX.out.keep2 HB5.out 0 _
          have LA : Hid (NR wA M m (digs (sall b l i))) := by unfold Hid; rw [hwA]; exact HL.out.keep2 HB5.out 0 _
          have DA : Hid (Below w3.heap.size w3 wA) := by unfold Hid; rw [hwA]; exact hbelI.setCell (p := ⟨w3.heap.size, 0, none⟩) (Nat.le_refl _) _
          have HWA := Lib.hid hwA
          have HSX : Hid (∀ W, Below wA.heap.size wA W → W.cell? ⟨w.heap.size, 1, none⟩ = some (.int .i64 b)) := fun W hW => (HC2.out _ (bel_on DA.out hW)).1
          have HSY : Hid (∀ W, Below wA.heap.size wA W → ∀ v, (W.setCell ⟨w3.heap.size, 1, none⟩ v).cell? ⟨w.heap.size, 1, none⟩ = some (.int .i64 b)) := fun W hW v => (HC2.out _ ((bel_on DA.out hW).setCell (p := ⟨w3.heap.size, 1, none⟩) (Nat.le_refl _) v)).1
          obtain ⟨lp, hlp⟩ : ∃ lp, (digs (sall b l (i + 1))).length = lp := ⟨_, rfl⟩
          have HML : Hid (∀ O o W, Below wA.heap.size wA W → NR W O o (digs b.toNat) → Calls Tryz.prog 145 #[.slice M li m, .slice O lb o] W fun e w' => (∃ P p, e = .returned (.tuple #[.slice P lp p, .int .i64 0]) ∧ NR w' P p (digs (sall b l (i + 1)))) ∧ Below W.heap.size W w') := fun O o W hW hO => by
            have hss := HSS.out i HIN1.out
            rw [← hlp, ← hss]
            exact mulD_any (by rw [hss]; exact sm_allS (HSA.out _ (by have := HIN1.out; omega))) (sm_allS (HSA.out i HIX.out)) (sm_small (by omega)) HLI.out HLB.out (LA.out.below hW) hO
          have HLP := Lib.hid hlp
          clear hl0 hwA hlp hbelI hbel
          go_wp2_with (rw [← HWA.out])
          clear c90 c50 f50
          refine wp_region_noPanic ?_
          obtain ⟨v0, hv0⟩ : ∃ W, W = wA.drew := ⟨_, rfl⟩
          have k0 : Below wA.heap.size wA v0 := by rw [hv0]; exact (Below.refl _ _).drew
          refine wp_region_held_drew (S := fun W => W.cell? ⟨w.heap.size, 1, none⟩ = some (.int .i64 b)) (by kernel_rfl) (by rw [← hv0]; exact HSX.out _ k0) (fun hS0 => ?_)
          rw [← hv0] at hS0 ⊢
          clear hv0
          refine hd_take 0 (.pointer (some ⟨w3.heap.size, 1, none⟩)) rfl rfl (by kernel_rfl) (by kernel_rfl) (by kernel_rfl) (fun _ _ _ h => h) (fun w hw => by go_simp) hS0 ?_
          refine hd_take 2 (.pointer (some ⟨w.heap.size, 1, none⟩)) rfl rfl (by kernel_rfl) (by kernel_rfl) (by kernel_rfl) (fun _ _ _ h => h) (fun w hw => by go_simp) hS0 ?_
          simp only [List.getElem_toArray, List.getElem_cons_succ, List.getElem_cons_zero, Act.put, List.setIfInBounds_toArray, List.set_cons_zero, List.set_cons_succ]
          refine hd_take 3 (.int .i64 b) rfl rfl (by kernel_rfl) (by kernel_rfl) (by kernel_rfl) (fun _ _ _ h => h) (fun w hw => by have hx := hw; simp [go_sem, hx]) hS0 ?_
          simp only [List.getElem_toArray, List.getElem_cons_succ, List.getElem_cons_zero, Act.put, List.setIfInBounds_toArray, List.set_cons_zero, List.set_cons_succ]
          refine hd_take 4 (.int .u64 b) rfl rfl (by kernel_rfl) (by kernel_rfl) (by kernel_rfl) (fun _ _ _ h => h) (fun w hw => by simp [go_sem, ewb]) hS0 ?_
          simp only [List.getElem_toArray, List.getElem_cons_succ, List.getElem_cons_zero, Act.put, List.setIfInBounds_toArray, List.set_cons_zero, List.set_cons_succ]
          have K5_0 := (BA.out.below' k0).cell 1
          refine hd_two 1 5 (by kernel_rfl) (op_run (.slice M li m) v0 rfl rfl (by have hx := K5_0; simp [go_sem, hx]) ⟨hS0, ?_⟩) (op_call 159 #[.int .u64 b] rfl rfl (by go_simp) ((HOF.out _).mono ?_))
          · simp only [List.getElem_toArray, List.getElem_cons_succ, List.getElem_cons_zero, Act.put, List.setIfInBounds_toArray, List.set_cons_zero, List.set_cons_succ]
            refine hd_calls 5 159 #[.int .u64 b] rfl rfl (by kernel_rfl) (by go_simp) ((HOF.out _).mono ?_)
            rintro e v1 ⟨⟨O5, o5, rfl, ho5⟩, hb1⟩
            have k1 := bel_on k0 hb1
            have hS1 := HSX.out _ k1
            refine ⟨_, rfl, hS1, ?_⟩
            simp only [List.getElem_toArray, List.getElem_cons_succ, List.getElem_cons_zero, Act.put, List.setIfInBounds_toArray, List.set_cons_zero, List.set_cons_succ]
            refine hd_calls 6 145 #[.slice M li m, .slice O5 lb o5] rfl rfl (by kernel_rfl) (by go_simp) ((HML.out _ _ _ k1 ho5).mono ?_)
            rintro e v2 ⟨⟨P, p, rfl, hP⟩, hb2⟩
            have k2 := bel_on k1 hb2
            have hS2 := HSX.out _ k2
            refine ⟨_, rfl, hS2, ?_⟩
            simp only [List.getElem_toArray, List.getElem_cons_succ, List.getElem_cons_zero, Act.put, List.setIfInBounds_toArray, List.set_cons_zero, List.set_cons_succ]
            refine hd_take 7 (.slice P lp p) rfl rfl (by kernel_rfl) (by kernel_rfl) (by kernel_rfl) (fun _ _ _ h => h) (fun w hw => by go_simp) hS2 ?_
            refine hd_take 8 (.int .i64 0) rfl rfl (by kernel_rfl) (by kernel_rfl) (by kernel_rfl) (fun _ _ _ h => h) (fun w hw => by go_simp) hS2 ?_
            simp only [List.getElem_toArray, List.getElem_cons_succ, List.getElem_cons_zero, Act.put, List.setIfInBounds_toArray, List.set_cons_zero, List.set_cons_succ]
            refine hd_calls 9 107 #[.slice P lp p, .int .i64 0] rfl rfl (by kernel_rfl) (by go_simp) ((HMU.out P lp p _).mono ?_)
            rintro e v3 ⟨rfl, hb3⟩
            have k3 := bel_on k2 hb3
            have hS3 := HSX.out _ k3
            refine ⟨_, rfl, hS3, ?_⟩
            simp only [List.getElem_toArray, List.getElem_cons_succ, List.getElem_cons_zero, Act.put, List.setIfInBounds_toArray, List.set_cons_zero, List.set_cons_succ]
            refine hd_take 10 (.pointer (some ⟨w3.heap.size, 1, none⟩)) rfl rfl (by kernel_rfl) (by kernel_rfl) (by kernel_rfl) (fun _ _ _ h => h) (fun w hw => by go_simp) hS3 ?_
            simp only [List.getElem_toArray, List.getElem_cons_succ, List.getElem_cons_zero, Act.put, List.setIfInBounds_toArray, List.set_cons_zero, List.set_cons_succ]
            have BB := BA.out.below' k3
            have kc := BB.cell 1
            have kf := BB.frozen 1
            have hS4 := HSY.out _ k3 (.slice P lp p)
            refine hd_sole 11 (by kernel_rfl) (op_skip (v3.setCell ⟨w3.heap.size, 1, none⟩ (.slice P lp p)) rfl rfl (by simp [go_sem, kc, kf]) ⟨hS4, ?_⟩)
            refine wpAnyH_done (by kernel_rfl) (NoPanic.normal ?_) _
            simp only [List.getElem_toArray, List.getElem_cons_succ, List.getElem_cons_zero, Act.put, List.setIfInBounds_toArray, List.set_cons_zero, List.set_cons_succ]
            have BF := BB.set_ 1 (.slice P lp p)
            have NF1 := (NA.out.below k3).keep2 BB 1 (.slice P lp p)
            have NP1 := (hP.below hb3).keep2 BB 1 (.slice P lp p)
            have DF := (bel_on DA.out k3).setCell (p := ⟨w3.heap.size, 1, none⟩) (Nat.le_refl _) (.slice P lp p)
            clear kc kf
            go_wp2_with fail
            go_roundw
            case rel => exact ⟨i + 1, _, p, P, by omega, by go_num, by rw [HLP.out]; exact BF, NF1, NP1, DF⟩
            case measure => simp [intOf]; omega
          · rintro e v1 ⟨⟨O5, o5, rfl, ho5⟩, hb1⟩
            have k1 := bel_on k0 hb1
            have hS1 := HSX.out _ k1
            refine ⟨_, rfl, hS1, ?_⟩
            simp only [List.getElem_toArray, List.getElem_cons_succ, List.getElem_cons_zero, Act.put, List.setIfInBounds_toArray, List.set_cons_zero, List.set_cons_succ]
            have K5_1 := (BA.out.below' k1).cell 1
            refine hd_sole 1 (by kernel_rfl) (op_run (.slice M li m) v1 rfl rfl (by have hx := K5_1; simp [go_sem, hx]) ⟨hS1, ?_⟩)
            simp only [List.getElem_toArray, List.getElem_cons_succ, List.getElem_cons_zero, Act.put, List.setIfInBounds_toArray, List.set_cons_zero, List.set_cons_succ]
            refine hd_calls 6 145 #[.slice M li m, .slice O5 lb o5] rfl rfl (by kernel_rfl) (by go_simp) ((HML.out _ _ _ k1 ho5).mono ?_)
            rintro e v2 ⟨⟨P, p, rfl, hP⟩, hb2⟩
            have k2 := bel_on k1 hb2
            have hS2 := HSX.out _ k2
            refine ⟨_, rfl, hS2, ?_⟩
            simp only [List.getElem_toArray, List.getElem_cons_succ, List.getElem_cons_zero, Act.put, List.setIfInBounds_toArray, List.set_cons_zero, List.set_cons_succ]
            refine hd_take 7 (.slice P lp p) rfl rfl (by kernel_rfl) (by kernel_rfl) (by kernel_rfl) (fun _ _ _ h => h) (fun w hw => by go_simp) hS2 ?_
            refine hd_take 8 (.int .i64 0) rfl rfl (by kernel_rfl) (by kernel_rfl) (by kernel_rfl) (fun _ _ _ h => h) (fun w hw => by go_simp) hS2 ?_
            simp only [List.getElem_toArray, List.getElem_cons_succ, List.getElem_cons_zero, Act.put, List.setIfInBounds_toArray, List.set_cons_zero, List.set_cons_succ]
            refine hd_calls 9 107 #[.slice P lp p, .int .i64 0] rfl rfl (by kernel_rfl) (by go_simp) ((HMU.out P lp p _).mono ?_)
            rintro e v3 ⟨rfl, hb3⟩
            have k3 := bel_on k2 hb3
            have hS3 := HSX.out _ k3
            refine ⟨_, rfl, hS3, ?_⟩
            simp only [List.getElem_toArray, List.getElem_cons_succ, List.getElem_cons_zero, Act.put, List.setIfInBounds_toArray, List.set_cons_zero, List.set_cons_succ]
            refine hd_take 10 (.pointer (some ⟨w3.heap.size, 1, none⟩)) rfl rfl (by kernel_rfl) (by kernel_rfl) (by kernel_rfl) (fun _ _ _ h => h) (fun w hw => by go_simp) hS3 ?_
            simp only [List.getElem_toArray, List.getElem_cons_succ, List.getElem_cons_zero, Act.put, List.setIfInBounds_toArray, List.set_cons_zero, List.set_cons_succ]
            have BB := BA.out.below' k3
            have kc := BB.cell 1
            have kf := BB.frozen 1
            have hS4 := HSY.out _ k3 (.slice P lp p)
            refine hd_sole 11 (by kernel_rfl) (op_skip (v3.setCell ⟨w3.heap.size, 1, none⟩ (.slice P lp p)) rfl rfl (by simp [go_sem, kc, kf]) ⟨hS4, ?_⟩)
            refine wpAnyH_done (by kernel_rfl) (NoPanic.normal ?_) _
            simp only [List.getElem_toArray, List.getElem_cons_succ, List.getElem_cons_zero, Act.put, List.setIfInBounds_toArray, List.set_cons_zero, List.set_cons_succ]
            have BF := BB.set_ 1 (.slice P lp p)
            have NF1 := (NA.out.below k3).keep2 BB 1 (.slice P lp p)
            have NP1 := (hP.below hb3).keep2 BB 1 (.slice P lp p)
            have DF := (bel_on DA.out k3).setCell (p := ⟨w3.heap.size, 1, none⟩) (Nat.le_refl _) (.slice P lp p)
            clear kc kf
            go_wp2_with fail
            go_roundw
            case rel => exact ⟨i + 1, _, p, P, by omega, by go_num, by rw [HLP.out]; exact BF, NF1, NP1, DF⟩
            case measure => simp [intOf]; omega
        · intro sx vx w7 cnt7 hws hls hfs hr7 hlt7 hg7 hs7 hen
          have hin2 := (HSV.out sx hws).2 (by rw [hfs]; simp)
          obtain ⟨X, cx, hvx, hnx⟩ : ∃ X cx, vx = .slice X (digs (scnt b l y i sx)).length cx ∧ NR wr X cx (digs (scnt b l y i sx)) := by
            rcases (HSV.out sx hws).1 with ⟨h1, h2⟩ | ⟨A, c, h1, h2⟩
            · rw [h1] at hfs; cases hfs
            · rw [h1] at hfs; injection hfs with e; exact ⟨A, c, e.symm, h2⟩
          subst hvx
          obtain ⟨hs1, hs2⟩ := hin2
          have hno := HR.out.noCells
          obtain ⟨S51, S52, S53⟩ := S5.out
          have HLT := Lib.hid hlt7
          have R7 := Lib.hid hr7
          have D7 : Hid (Below w3.heap.size w3 w7) := hbelI.grown hg7 hbelI.size (fun j hj => by cases hj; exact DM.out.size)
          have V7 : Hid (SV b l y i w7 f) := fun s hs => ⟨(HSV.out s hs).1.grownN hg7 hno, (HSV.out s hs).2⟩
          have N7 : Hid (NM w7 (w5.heap.size + 1) 5000 (partW (gA b l y) (gB b l y) (cA b l) (cB l) i left) (-(32 * ((i + 1 : Nat) : Int))) (32 * ((i + 1 : Nat) : Int))) := by
            obtain ⟨F, hm, hv⟩ := HNX.out
            exact ⟨F, hm.kept hg7 (by simp; omega), fun s hs => ⟨(hv s hs).1.grownN hg7 hno, (hv s hs).2⟩⟩
          have P7 := Lib.hid (HP8.out.grownM hg7 (by omega))
          have Q7 := Lib.hid (HP9.out.grownM hg7 (by omega))
          have B7 := Lib.hid (HB5.out.grownM hg7 (by have := DM.out.size; omega))
          have L7 : Hid (NR w7 M m (digs (sall b l i))) := HL.out.grownN hg7 hno
          have X7 : Hid (NR w7 X cx (digs (scnt b l y i sx))) := hnx.grownN hg7 hno
          have HKEEP : Hid (∀ W W' hh, Below w3.heap.size w3 W → NM W (w5.heap.size + 1) 5000 hh (-(32 * ((i + 1 : Nat) : Int))) (32 * ((i + 1 : Nat) : Int)) → W.grownBy W' (some (w5.heap.size + 1)) → Below w3.heap.size w3 W' ∧
              (∀ lft cn, MFR Tryz.prog 3 W bm wm.heap.size 5000 f lft cn → MFR Tryz.prog 3 W' bm wm.heap.size 5000 f lft cn) ∧ (SV b l y i W f → SV b l y i W' f) ∧
              (∀ g t cs, g ≠ w5.heap.size + 1 → Blk W g t cs → Blk W' g t cs) ∧ (∀ A c ll, NR W A c ll → NR W' A c ll)) := fun W W' hh hD hN hG => by
            obtain ⟨F, hm⟩ := hN.mf
            exact ⟨hD.grown hG hD.size (fun j hj => by cases hj; omega), fun lft cn hR => hR.kept hG (by simp; omega) (by simp; omega), fun hS s hs => ⟨(hS s hs).1.grownM hm hG, (hS s hs).2⟩,
              fun g t cs hne hB => hB.grownM hG hne, fun A c ll hn => hn.grownM hm hG⟩
          have hcle : scnt b l y i sx ≤ 32 ^ 64 := Nat.le_trans (count_le (gA b l y) (gB b l y) (cA b l) (cB l) i sx) (HSA.out i HIX.out)
          have hall : allS (cA b l) (cB l) (i + 1) ≤ 32 ^ 64 := HSA.out (i + 1) HIN1.out
          obtain ⟨lx, hlx⟩ : ∃ lx, (digs (scnt b l y i sx)).length = lx := ⟨_, rfl⟩
          have HPUT1 : Hid (Calls Tryz.prog 158 #[.int .i64 (sx + p0), .slice X lx cx, .int .i64 (a0 : Int), .pointer (some ⟨w5.heap.size + 2, 0, none⟩)] w7 fun e w' => e = .returned (.tuple #[]) ∧ NM w' (w5.heap.size + 1) 5000 (putOne (gA b l y) (gB b l y) (cA b l) (cB l) i left sx) (-(32 * ((i + 1 : Nat) : Int))) (32 * ((i + 1 : Nat) : Int)) ∧ w7.grownBy w' (some (w5.heap.size + 1))) := by
            rw [← hlx]
            have hle := putOne_le (gA b l y) (gB b l y) (cA b l) (cB l) (n := i) hls
            rw [putOne_at, EP0.out, ECA.out] at hle
            refine (put_any (w5.heap.size + 2) (w5.heap.size + 1) 5000 _ _ _ (sx + p0) X cx (scnt b l y i sx) a0 w7 (Q7.out.cell 0) (by omega) N7.out X7.out ⟨by omega, by omega⟩ ⟨by omega, by omega⟩ (by omega) (sm_allS hcle) (sm_wide hcle (by omega)) (sm_allS (Nat.le_trans hle hall)) (by unfold maxLen; omega)).mono fun e w' hq => ⟨hq.1, (hq.2.1.fit (by omega) (by omega)).congr fun t ht => ?_, hq.2.2⟩
            unfold putOne
            rw [EP0.out, ECA.out]; rfl
          have HPUT2 : Hid (∀ W, Blk W (w5.heap.size + 2) 120 #[.map (some (w5.heap.size + 1))] → NM W (w5.heap.size + 1) 5000 (putOne (gA b l y) (gB b l y) (cA b l) (cB l) i left sx) (-(32 * ((i + 1 : Nat) : Int))) (32 * ((i + 1 : Nat) : Int)) → NR W X cx (digs (scnt b l y i sx)) → Calls Tryz.prog 158 #[.int .i64 (sx + p1), .slice X lx cx, .int .i64 (a1 : Int), .pointer (some ⟨w5.heap.size + 2, 0, none⟩)] W fun e w' => e = .returned (.tuple #[]) ∧ NM w' (w5.heap.size + 1) 5000 (partW (gA b l y) (gB b l y) (cA b l) (cB l) i (fun z => left z && !(z == sx))) (-(32 * ((i + 1 : Nat) : Int))) (32 * ((i + 1 : Nat) : Int)) ∧ W.grownBy w' (some (w5.heap.size + 1))) := fun W hQ hN hX => by
            rw [← hlx]
            have hle := putTwo_le (gA b l y) (gB b l y) (cA b l) (cB l) (n := i) hls
            rw [EP1.out, ECB.out] at hle
            refine (put_any (w5.heap.size + 2) (w5.heap.size + 1) 5000 _ _ _ (sx + p1) X cx (scnt b l y i sx) a1 W (hQ.cell 0) (by omega) hN hX ⟨by omega, by omega⟩ ⟨by omega, by omega⟩ (by omega) (sm_allS hcle) (sm_wide hcle (by omega)) (sm_allS (Nat.le_trans hle hall)) (by unfold maxLen; omega)).mono fun e w' hq => ⟨hq.1, (hq.2.1.fit (by omega) (by omega)).congr fun t ht => ?_, hq.2.2⟩
            rw [partW_two (gA b l y) (gB b l y) (cA b l) (cB l) hls, EP1.out, ECB.out]; rfl
          rw [hlx] at hen ⊢
          have c80 := P7.out.cell 0
          have cc := (HC2.out _ D7.out).1
          have HS5 := Lib.hid S5.out
          clear hws hls hfs hr7 hlt7 hg7 hs7 hnx hno hcle hall hlx S51 S52 S53
          go_wp2_with fail
          refine HPUT1.out.mono ?_
          rintro e w8 ⟨rfl, hN8, hG8⟩
          obtain ⟨hD8, hR8, hV8, hB8, hL8⟩ := HKEEP.out _ _ _ D7.out N7.out hG8
          have D8 := Lib.hid hD8
          have R8 := Lib.hid (hR8 _ _ R7.out)
          have V8 := Lib.hid (hV8 V7.out)
          have P8 := Lib.hid (hB8 _ _ _ (by omega) P7.out)
          have Q8 := Lib.hid (hB8 _ _ _ (by omega) Q7.out)
          have B8' := Lib.hid (hB8 _ _ _ (by have := HS5.out; omega) B7.out)
          have L8 := Lib.hid (hL8 _ _ _ L7.out)
          have X8 := Lib.hid (hL8 _ _ _ X7.out)
          have N8 := Lib.hid hN8
          have c81 := P8.out.cell 1
          clear hD8 hR8 hV8 hB8 hL8 hN8 hG8 c80 cc
          go_wp2_with fail
          refine (HPUT2.out _ Q8.out N8.out X8.out).mono ?_
          rintro e w9 ⟨rfl, hN9, hG9⟩
          obtain ⟨hD9, hR9, hV9, hB9, hL9⟩ := HKEEP.out _ _ _ D8.out N8.out hG9
          have D9 := hD9
          have R9 := Lib.hid (hR9 _ _ R8.out)
          have V9 := Lib.hid (hV9 V8.out)
          have P9 := Lib.hid (hB9 _ _ _ (by omega) P8.out)
          have Q9 := Lib.hid (hB9 _ _ _ (by omega) Q8.out)
          have B9' := Lib.hid (hB9 _ _ _ (by have := HS5.out; omega) B8'.out)
          have L9 := Lib.hid (hL9 _ _ _ L8.out)
          have N9 := Lib.hid hN9
          clear hD9 hR9 hV9 hB9 hL9 hN9 hG9 c81
          go_wp2_with fail
          go_roundw
          case rel => exact ⟨_, cnt7, R9.out, V9.out, N9.out, P9.out, Q9.out, B9'.out, L9.out, D9⟩
          case measure => rw [R9.out.left_eq, HR.out.left_eq]; exact HLT.out
    · obtain rfl : i = n := by omega
      have c50 := HBS.out.cell 0
      have c51 := HBS.out.cell 1
      have R0 := HY3.out _ hbel
      have r0 := R0.cell 0
      have r1 := R0.cell 1
      have f0 := R0.frozen 0
      have f1 := R0.frozen 1
      have RB := (R0.set_ 0 (.map (some bm))).set_ 1 (.slice M (digs (sall b l i)).length m)
      have NE := (HNM.out.keep2 R0 0 (.map (some bm))).keep2 (R0.set_ 0 (.map (some bm))) 1 (.slice M (digs (sall b l i)).length m)
      have NF := (HNR.out.keep2 R0 0 (.map (some bm))).keep2 (R0.set_ 0 (.map (some bm))) 1 (.slice M (digs (sall b l i)).length m)
      have DF : Below w.heap.size w ((wr.setCell ⟨w.heap.size + 1, 0, none⟩ (.map (some bm))).setCell ⟨w.heap.size + 1, 1, none⟩ (.slice M (digs (sall b l i)).length m)) := ((HBW.out _ hbel).setCell (p := ⟨w.heap.size + 1, 0, none⟩) (by simp) _).setCell (p := ⟨w.heap.size + 1, 1, none⟩) (by simp) _
      have HRB := Lib.hid RB
      have HNE := Lib.hid NE
      have HNF := Lib.hid NF
      have HDF := Lib.hid DF
      clear RB NE NF DF
      go_wp2_with fail
      exact bodyPost_ret (results_cell_row rfl _ _ (w.heap.size + 1) _ _ (0, 0) _ rfl HRB.out Tryz.underlying122 rfl (by kernel_rfl)) rfl ⟨⟨bm, M, m, rfl, HNE.out.wider (by omega) (by omega), HNF.out⟩, HDF.out⟩
end Go.Proofs.YtenpkmgbaajeeaaGreat

/- Score, of the program and of the reference. -/
namespace Go.Proofs.YtenpkmgbaajeeaaGreat
open Go.RowKit
set_option linter.unusedVariables false
attribute [local go_sem] scC_0 scC_1 scC_2 scC_0a scC_1a scC_2a

theorem scS_no {u b : Int} {l : List Int} {v y : List UInt8} (h : scoresB u b l = false) : scS u b l v y = (0, 70) := by rw [scS, h]; rfl
theorem scS_w {u b : Int} {l : List Int} {v y : List UInt8} (h : scoresB u b l = true) (h2 : wordB v l.length = false) : scS u b l v y = (0, 71) := by rw [scS, if_pos h, h2]; rfl
theorem scS_y {u b : Int} {l : List Int} {v y : List UInt8} (h : scoresB u b l = true) (h2 : copyB y l.length = false) : scS u b l v y = (0, 71) := by rw [scS, if_pos h, h2]; simp
theorem scS_yes {u b : Int} {l : List Int} {v y : List UInt8} (h : scoresB u b l = true) (h1 : wordB v l.length = true) (h2 : copyB y l.length = true) : scS u b l v y = (sumS b l v y l.length, 0) := by rw [scS, if_pos h, if_pos ⟨h1, h2⟩]
theorem wordB_sym {l : List UInt8} {n : Nat} (h : wordB l n = true) : l.length = n ∧ ∀ i, i < n → bt l i ≤ 1 := by
  simp only [wordB, Bool.and_eq_true, decide_eq_true_eq] at h
  exact ⟨h.1, fun i hi => symB_iff.1 h.2 i (by omega)⟩
theorem copyB_sym {l : List UInt8} {n : Nat} (h : copyB l n = true) : l.length = n ∧ ∀ i, i < n → bt l i ≤ 2 := by
  simp only [copyB, Bool.and_eq_true, decide_eq_true_eq] at h
  exact ⟨h.1, fun i hi => symB_iff.1 h.2 i (by omega)⟩
set_option maxHeartbeats 2000000 in
set_option maxRecDepth 100000 in
theorem Score_any (u b : Int) (A : Option Addr) (c : Nat) (l : List Int) (k : List UInt8) (V : Option Addr) (e : Nat) (v : List UInt8) (Y : Option Addr) (d : Nat) (y : List UInt8) (w : World) {n nv ny : Nat} (hn : l.length = n) (hvl : v.length = nv) (hyl : y.length = ny) (h : IR w A c l) (hvr : BR w V e v) (hy : BR w Y d y) (hk : k.length = 16) :
    Calls Tryz.prog 47 #[.agg (scC u b A n c k).toArray, .slice V nv e, .slice Y ny d] w fun er w' => er = .returned (.tuple #[.int .i64 (scS u b l v y).1, .int .i64 (scS u b l v y).2]) ∧ Below w.heap.size w w' := by
  have hlen : (n : Int) ≤ 140737488351232 := by have := h.len; omega
  have HN := Lib.hid hn
  have HVL := Lib.hid hvl
  have HYL := Lib.hid hyl
  have H := Lib.hid h
  have HVR := Lib.hid hvr
  have HY := Lib.hid hy
  have HK := Lib.hid hk
  have b0 := alloc_bel w (.cells (scC u b A n c k).toArray 46)
  have hv : scoresB u b l = false ∨ scoresB u b l = true := by cases scoresB u b l <;> simp
  rcases hv with hv | hv
  · have HV := Lib.hid hv
    have HS := Lib.hid (scS_no (v := v) (y := y) hv)
    clear hn hvl hyl h hvr hy hk hv
    go_enter Tryz.func47, Tryz.ntmps47
    go_wp2_with (first
      | (refine wpList_load_row rfl 46 (.tmp 3) rfl w.heap.size rfl 46 (scC u b A n c k).toArray (0, 0) _ (Blk.new w _ _) Tryz.underlying46 rfl (scC_info u b A n c k HK.out) ?_)
      | (go_at_call 99; refine (CheckScores_any u b A c l k _ HN.out (H.out.below (alloc_bel _ _))).mono ?_; rintro er w1 ⟨rfl, hb1⟩; rw [HV.out, show ckS false = 70 from rfl]; have hB1 := (Blk.new w 46 (scC u b A n c k).toArray).below' hb1; have hc2 := hB1.cell 2; have HB1 := Lib.hid hB1; clear hB1; have b1 := b0.trans (hb1.mono b0.size)))
    go_ret2
    exact ⟨by rw [HS.out]; rfl, b1⟩
  · have HV := Lib.hid hv
    have hwv : wordB v n = false ∨ wordB v n = true := by cases wordB v n <;> simp
    rcases hwv with hwb | hwb
    · have HWB := Lib.hid hwb
      have HS := Lib.hid (scS_w (y := y) hv (by rw [hn]; exact hwb))
      clear hn hvl hyl h hvr hy hk hv hwb
      go_enter Tryz.func47, Tryz.ntmps47
      go_wp2_with (first
        | (refine wpList_load_row rfl 46 (.tmp 3) rfl w.heap.size rfl 46 (scC u b A n c k).toArray (0, 0) _ (Blk.new w _ _) Tryz.underlying46 rfl (scC_info u b A n c k HK.out) ?_)
        | (go_at_call 99; refine (CheckScores_any u b A c l k _ HN.out (H.out.below (alloc_bel _ _))).mono ?_; rintro er w1 ⟨rfl, hb1⟩; rw [HV.out, show ckS true = 0 from rfl]; have hB1 := (Blk.new w 46 (scC u b A n c k).toArray).below' hb1; have hc2 := hB1.cell 2; have HB1 := Lib.hid hB1; clear hB1; have b1 := b0.trans (hb1.mono b0.size))
        | (go_at_call 97; refine (isWord_any V e v n _ HVL.out (HVR.out.below b1) (by omega)).mono ?_; rintro er w2 ⟨rfl, hb2⟩; rw [HWB.out]; have hB2 := HB1.out.below' hb2; have hc2' := hB2.cell 2; have HB2 := Lib.hid hB2; clear hB2; have b2 := b1.trans (hb2.mono b1.size)))
      go_ret2
      exact ⟨by rw [HS.out]; rfl, b2⟩
    · have HWB := Lib.hid hwb
      have hcv : copyB y n = false ∨ copyB y n = true := by cases copyB y n <;> simp
      rcases hcv with hcb | hcb
      · have HCB := Lib.hid hcb
        have HS := Lib.hid (scS_y (v := v) hv (by rw [hn]; exact hcb))
        clear hn hvl hyl h hvr hy hk hv hwb hcb
        go_enter Tryz.func47, Tryz.ntmps47
        go_wp2_with (first
          | (refine wpList_load_row rfl 46 (.tmp 3) rfl w.heap.size rfl 46 (scC u b A n c k).toArray (0, 0) _ (Blk.new w _ _) Tryz.underlying46 rfl (scC_info u b A n c k HK.out) ?_)
          | (go_at_call 99; refine (CheckScores_any u b A c l k _ HN.out (H.out.below (alloc_bel _ _))).mono ?_; rintro er w1 ⟨rfl, hb1⟩; rw [HV.out, show ckS true = 0 from rfl]; have hB1 := (Blk.new w 46 (scC u b A n c k).toArray).below' hb1; have hc2 := hB1.cell 2; have HB1 := Lib.hid hB1; clear hB1; have b1 := b0.trans (hb1.mono b0.size))
          | (go_at_call 97; refine (isWord_any V e v n _ HVL.out (HVR.out.below b1) (by omega)).mono ?_; rintro er w2 ⟨rfl, hb2⟩; rw [HWB.out]; have hB2 := HB1.out.below' hb2; have hc2' := hB2.cell 2; have HB2 := Lib.hid hB2; clear hB2; have b2 := b1.trans (hb2.mono b1.size))
          | (go_at_call 93; refine (isCopy_any Y d y n _ HYL.out (HY.out.below b2) (by omega)).mono ?_; rintro er w3 ⟨rfl, hb3⟩; rw [HCB.out]; have HB3 := Lib.hid (HB2.out.below' hb3); have b3 := b2.trans (hb3.mono b2.size)))
        go_ret2
        exact ⟨by rw [HS.out]; rfl, b3⟩
      · have HCB := Lib.hid hcb
        have HS := Lib.hid (scS_yes hv (by rw [hn]; exact hwb) (by rw [hn]; exact hcb))
        obtain ⟨e1, e2⟩ := wordB_sym hwb
        obtain ⟨e3, e4⟩ := copyB_sym hcb
        have E1 : Hid (nv = n) := by unfold Hid; omega
        have E3 : Hid (ny = n) := by unfold Hid; omega
        have E2 := Lib.hid e2
        have E4 := Lib.hid e4
        have HVL2 := Lib.hid e1
        have HYL2 := Lib.hid e3
        obtain rfl : nv = n := by omega
        obtain rfl : ny = nv := by omega
        clear hn hvl hyl h hvr hy hk hv hwb hcb e1 e2 e3 e4 E1 E3
        go_enter Tryz.func47, Tryz.ntmps47
        go_wp2_with (first
          | (refine wpList_load_row rfl 46 (.tmp 3) rfl w.heap.size rfl 46 (scC u b A ny c k).toArray (0, 0) _ (Blk.new w _ _) Tryz.underlying46 rfl (scC_info u b A ny c k HK.out) ?_)
          | (go_at_call 99; refine (CheckScores_any u b A c l k _ HN.out (H.out.below (alloc_bel _ _))).mono ?_; rintro er w1 ⟨rfl, hb1⟩; rw [HV.out, show ckS true = 0 from rfl]; have hB1 := (Blk.new w 46 (scC u b A ny c k).toArray).below' hb1; have hc2 := hB1.cell 2; have HB1 := Lib.hid hB1; clear hB1; have b1 := b0.trans (hb1.mono b0.size))
          | (go_at_call 97; refine (isWord_any V e v ny _ HVL.out (HVR.out.below b1) (by omega)).mono ?_; rintro er w2 ⟨rfl, hb2⟩; rw [HWB.out]; have hB2 := HB1.out.below' hb2; have hc2' := hB2.cell 2; have HB2 := Lib.hid hB2; clear hB2; have b2 := b1.trans (hb2.mono b1.size))
          | (go_at_call 93; refine (isCopy_any Y d y ny _ HYL.out (HY.out.below b2) (by omega)).mono ?_; rintro er w3 ⟨rfl, hb3⟩; rw [HCB.out]; have HB3 := Lib.hid (HB2.out.below' hb3); have b3 := b2.trans (hb3.mono b2.size))
          | (refine wpList_load_row rfl 46 (.tmp 3) rfl w.heap.size rfl 46 (scC u b A ny c k).toArray (0, 0) _ HB3.out Tryz.underlying46 rfl (scC_info u b A ny c k HK.out) ?_)
          | (go_at_call 87; refine (score_any u b A c l k V e v Y d y _ HN.out HVL2.out HYL2.out (H.out.below b3) (HVR.out.below b3) (HY.out.below b3) HK.out HV.out E2.out E4.out).mono ?_; rintro er w5 ⟨rfl, hb5⟩))
        go_ret2
        exact ⟨by rw [HS.out, HN.out]; rfl, b3.trans (hb5.mono b3.size)⟩

end Go.Proofs.YtenpkmgbaajeeaaGreat

/- The spread for a copy, or an error. -/
namespace Go.Proofs.YtenpkmgbaajeeaaGreat
open Go.RowKit Go.Maps
set_option linter.unusedVariables false
set_option linter.unusedSimpArgs false

/-- The errors of a code of scores and a copy. -/
def ckSC (u b : Int) (l : List Int) (y : List UInt8) : Int := if scoresB u b l = true then (if copyB y l.length = true then 0 else 71) else 70
/-- A spread in memory. -/
def Spread (w : World) (v : Value) (b : Int) (l : List Int) (y : List UInt8) : Prop := ∃ bm M m, v = .agg #[.map (some bm), .slice M (digs (sall b l l.length)).length m] ∧ NM w bm 5000 (scnt b l y l.length) (-2048) 2048 ∧ NR w M m (digs (sall b l l.length))
theorem ckSC_bad {u b : Int} {l : List Int} {y : List UInt8} (h : scoresB u b l = false) : ckSC u b l y = 70 := by rw [ckSC, h]; rfl
theorem ckSC_copy {u b : Int} {l : List Int} {y : List UInt8} (h : scoresB u b l = true) (h2 : copyB y l.length = false) : ckSC u b l y = 71 := by rw [ckSC, h, h2]; rfl
theorem ckSC_ok {u b : Int} {l : List Int} {y : List UInt8} (h : scoresB u b l = true) (h2 : copyB y l.length = true) : ckSC u b l y = 0 := by rw [ckSC, h, h2]; rfl
theorem ckSC_zero {u b : Int} {l : List Int} {y : List UInt8} (h : ckSC u b l y = 0) : scoresB u b l = true ∧ copyB y l.length = true := by
  unfold ckSC at h
  split at h
  · rename_i h1
    split at h
    · rename_i h2; exact ⟨h1, h2⟩
    · cases h
  · cases h
theorem score_range {u b : Int} {l : List Int} {y : List UInt8} (h : scoresB u b l = true) : -2048 ≤ slow b l y l.length ∧ shigh b l y l.length ≤ 2048 ∧ sall b l l.length ≤ 32 ^ 64 ∧ 0 < sall b l l.length := by
  obtain ⟨⟨o1, o2, o3, o4, o5, o6⟩, o7⟩ := scoresB_parts h
  have h1 := score_bds (y := y) ⟨o3, o4⟩ o7 (Nat.le_refl _)
  exact ⟨by omega, by omega, sall_le ⟨o3, o4⟩ o7 (Nat.le_refl _) o6, sall_pos ⟨o3, o4⟩ o7 (Nat.le_refl _)⟩
set_option maxHeartbeats 2000000 in
set_option maxRecDepth 100000 in
theorem chances_bad (u b : Int) (A : Option Addr) (c : Nat) (l : List Int) (k : List UInt8) (Y : Option Addr) (d : Nat) (y : List UInt8) (w : World) {n ny : Nat} (hn : l.length = n) (hyl : y.length = ny) (h : IR w A c l) (hy : BR w Y d y) (hk : k.length = 16) (hv : scoresB u b l = false) :
    Calls Tryz.prog 77 #[.agg (scC u b A n c k).toArray, .slice Y ny d] w fun e w' => e = .returned (.tuple #[.agg #[.map none, .slice none 0 0], .int .i64 70]) ∧ Below w.heap.size w w' := by
  have hlen : (n : Int) ≤ 140737488351232 := by have := h.len; omega
  have HN := Lib.hid hn
  have HYL := Lib.hid hyl
  have H := Lib.hid h
  have HY := Lib.hid hy
  have HK := Lib.hid hk
  have HIN := Lib.hid (scC_info u b A n c k hk)
  have HCK : Hid (∀ W, Below w.heap.size w W → Calls Tryz.prog 99 #[.agg (scC u b A n c k).toArray] W fun e w' => e = .returned (.int .i64 (ckS (scoresB u b l))) ∧ Below W.heap.size W w') := fun W hW => CheckScores_any u b A c l k W hn (h.below hW)
  have HCP : Hid (∀ W, Below w.heap.size w W → Calls Tryz.prog 93 #[.slice Y ny d, .int .i64 (n : Int)] W fun e w' => e = .returned (.bool (copyB y n)) ∧ Below W.heap.size W w') := fun W hW => isCopy_any Y d y n W hyl (hy.below hW) (by omega)
  obtain ⟨W0, hW0⟩ : ∃ W : World, W = (w.alloc (.cells (scC u b A n c k).toArray 46)).alloc (.cells #[.map none, .slice none 0 0] 122) := ⟨_, rfl⟩
  have b0 : Hid (Below w.heap.size w W0) := by unfold Hid; rw [hW0]; exact alloc2_bel _ _ _
  have x0 : Hid (Blk W0 w.heap.size 46 (scC u b A n c k).toArray) := by unfold Hid; rw [hW0]; exact blk_b0 w _ _ _
  have y0 : Hid (Blk W0 (w.heap.size + 1) 122 #[.map none, .slice none 0 0]) := by unfold Hid; rw [hW0]; exact blk_b1 w _ _ _
  have HW0 := Lib.hid hW0
  have HV := Lib.hid hv
  clear hn hyl h hy hk hW0 hv
  go_enter Tryz.func77, Tryz.ntmps77
  go_wp2_with (first
    | (rw [← HW0.out])
    | (refine wpList_load_row rfl 46 (.tmp 2) rfl w.heap.size rfl 46 (scC u b A n c k).toArray (0, 0) _ x0.out Tryz.underlying46 rfl HIN.out ?_)
    | (go_at_call 99; (with_reducible refine (HCK.out _ b0.out).mono ?_); rintro e w1 ⟨rfl, hb1⟩; rw [HV.out, show ckS false = 70 from rfl]; have X1 := Lib.hid (x0.out.below' hb1); have Y1 := Lib.hid (y0.out.below' hb1); have D1 := Lib.hid (bel_on b0.out hb1); have c2 : w1.cell? ⟨w.heap.size, 2, none⟩ = some (.slice A n c) := X1.out.cell 2; have k0 := Y1.out.cell 0; have k1 := Y1.out.cell 1; have f0 := Y1.out.frozen 0; have f1 := Y1.out.frozen 1; clear hb1))
  have RB := (Y1.out.set_ 0 (.map none)).set_ 1 (.slice none 0 0)
  have DF := (D1.out.setCell (p := ⟨w.heap.size + 1, 0, none⟩) (by simp) (.map none)).setCell (p := ⟨w.heap.size + 1, 1, none⟩) (by simp) (.slice none 0 0)
  have z0 := RB.cell 0
  have z1 := RB.cell 1
  exact bodyPost_ret (v := .tuple #[.agg #[.map none, .slice none 0 0], .int .i64 70]) (by simp [results, Tryz.f77, go_sem, z0, z1, k0, k1, f0, f1]) rfl ⟨rfl, DF⟩
set_option maxHeartbeats 2000000 in
set_option maxRecDepth 100000 in
theorem chances_copy (u b : Int) (A : Option Addr) (c : Nat) (l : List Int) (k : List UInt8) (Y : Option Addr) (d : Nat) (y : List UInt8) (w : World) {n ny : Nat} (hn : l.length = n) (hyl : y.length = ny) (h : IR w A c l) (hy : BR w Y d y) (hk : k.length = 16) (hv : scoresB u b l = true) (hc : copyB y n = false) :
    Calls Tryz.prog 77 #[.agg (scC u b A n c k).toArray, .slice Y ny d] w fun e w' => e = .returned (.tuple #[.agg #[.map none, .slice none 0 0], .int .i64 71]) ∧ Below w.heap.size w w' := by
  have hlen : (n : Int) ≤ 140737488351232 := by have := h.len; omega
  have HN := Lib.hid hn
  have HYL := Lib.hid hyl
  have H := Lib.hid h
  have HY := Lib.hid hy
  have HK := Lib.hid hk
  have HIN := Lib.hid (scC_info u b A n c k hk)
  have HCK : Hid (∀ W, Below w.heap.size w W → Calls Tryz.prog 99 #[.agg (scC u b A n c k).toArray] W fun e w' => e = .returned (.int .i64 (ckS (scoresB u b l))) ∧ Below W.heap.size W w') := fun W hW => CheckScores_any u b A c l k W hn (h.below hW)
  have HCP : Hid (∀ W, Below w.heap.size w W → Calls Tryz.prog 93 #[.slice Y ny d, .int .i64 (n : Int)] W fun e w' => e = .returned (.bool (copyB y n)) ∧ Below W.heap.size W w') := fun W hW => isCopy_any Y d y n W hyl (hy.below hW) (by omega)
  obtain ⟨W0, hW0⟩ : ∃ W : World, W = (w.alloc (.cells (scC u b A n c k).toArray 46)).alloc (.cells #[.map none, .slice none 0 0] 122) := ⟨_, rfl⟩
  have b0 : Hid (Below w.heap.size w W0) := by unfold Hid; rw [hW0]; exact alloc2_bel _ _ _
  have x0 : Hid (Blk W0 w.heap.size 46 (scC u b A n c k).toArray) := by unfold Hid; rw [hW0]; exact blk_b0 w _ _ _
  have y0 : Hid (Blk W0 (w.heap.size + 1) 122 #[.map none, .slice none 0 0]) := by unfold Hid; rw [hW0]; exact blk_b1 w _ _ _
  have HW0 := Lib.hid hW0
  have HV := Lib.hid hv
  have HCB := Lib.hid hc
  clear hn hyl h hy hk hW0 hv hc
  go_enter Tryz.func77, Tryz.ntmps77
  go_wp2_with (first
    | (rw [← HW0.out])
    | (refine wpList_load_row rfl 46 (.tmp 2) rfl w.heap.size rfl 46 (scC u b A n c k).toArray (0, 0) _ x0.out Tryz.underlying46 rfl HIN.out ?_)
    | (go_at_call 99; (with_reducible refine (HCK.out _ b0.out).mono ?_); rintro e w1 ⟨rfl, hb1⟩; rw [HV.out, show ckS true = 0 from rfl]; have X1 := Lib.hid (x0.out.below' hb1); have Y1 := Lib.hid (y0.out.below' hb1); have D1 := Lib.hid (bel_on b0.out hb1); have c2 : w1.cell? ⟨w.heap.size, 2, none⟩ = some (.slice A n c) := X1.out.cell 2; have k0 := Y1.out.cell 0; have k1 := Y1.out.cell 1; have f0 := Y1.out.frozen 0; have f1 := Y1.out.frozen 1; clear hb1)
    | (go_at_call 93; (with_reducible refine (HCP.out _ D1.out).mono ?_); rintro e w2 ⟨rfl, hb2⟩; rw [HCB.out]; clear c2 k0 k1 f0 f1; have X2 := Lib.hid (X1.out.below' hb2); have Y2 := Lib.hid (Y1.out.below' hb2); have D2 := Lib.hid (bel_on D1.out hb2); have k0 := Y2.out.cell 0; have k1 := Y2.out.cell 1; have f0 := Y2.out.frozen 0; have f1 := Y2.out.frozen 1; clear hb2))
  have RB := (Y2.out.set_ 0 (.map none)).set_ 1 (.slice none 0 0)
  have DF := (D2.out.setCell (p := ⟨w.heap.size + 1, 0, none⟩) (by simp) (.map none)).setCell (p := ⟨w.heap.size + 1, 1, none⟩) (by simp) (.slice none 0 0)
  have z0 := RB.cell 0
  have z1 := RB.cell 1
  exact bodyPost_ret (v := .tuple #[.agg #[.map none, .slice none 0 0], .int .i64 71]) (by simp [results, Tryz.f77, go_sem, z0, z1, k0, k1, f0, f1]) rfl ⟨rfl, DF⟩
set_option maxHeartbeats 2000000 in
set_option maxRecDepth 100000 in
theorem chances_good (u b : Int) (A : Option Addr) (c : Nat) (l : List Int) (k : List UInt8) (Y : Option Addr) (d : Nat) (y : List UInt8) (w : World) {n ny : Nat} (hn : l.length = n) (hyl : y.length = ny) (h : IR w A c l) (hy : BR w Y d y) (hk : k.length = 16) (hv : scoresB u b l = true) (hc : copyB y n = true) :
    Calls Tryz.prog 77 #[.agg (scC u b A n c k).toArray, .slice Y ny d] w fun e w' => (∃ v, e = .returned (.tuple #[v, .int .i64 0]) ∧ Spread w' v b l y) ∧ Below w.heap.size w w' := by
  have hlen : (n : Int) ≤ 140737488351232 := by have := h.len; omega
  have HN := Lib.hid hn
  have HYL := Lib.hid hyl
  have H := Lib.hid h
  have HY := Lib.hid hy
  have HK := Lib.hid hk
  have HIN := Lib.hid (scC_info u b A n c k hk)
  have HCK : Hid (∀ W, Below w.heap.size w W → Calls Tryz.prog 99 #[.agg (scC u b A n c k).toArray] W fun e w' => e = .returned (.int .i64 (ckS (scoresB u b l))) ∧ Below W.heap.size W w') := fun W hW => CheckScores_any u b A c l k W hn (h.below hW)
  have HCP : Hid (∀ W, Below w.heap.size w W → Calls Tryz.prog 93 #[.slice Y ny d, .int .i64 (n : Int)] W fun e w' => e = .returned (.bool (copyB y n)) ∧ Below W.heap.size W w') := fun W hW => isCopy_any Y d y n W hyl (hy.below hW) (by omega)
  obtain ⟨W0, hW0⟩ : ∃ W : World, W = (w.alloc (.cells (scC u b A n c k).toArray 46)).alloc (.cells #[.map none, .slice none 0 0] 122) := ⟨_, rfl⟩
  have b0 : Hid (Below w.heap.size w W0) := by unfold Hid; rw [hW0]; exact alloc2_bel _ _ _
  have x0 : Hid (Blk W0 w.heap.size 46 (scC u b A n c k).toArray) := by unfold Hid; rw [hW0]; exact blk_b0 w _ _ _
  have y0 : Hid (Blk W0 (w.heap.size + 1) 122 #[.map none, .slice none 0 0]) := by unfold Hid; rw [hW0]; exact blk_b1 w _ _ _
  have HW0 := Lib.hid hW0
  have HV := Lib.hid hv
  have HCB := Lib.hid hc
  obtain ⟨e3, e4⟩ := copyB_sym hc
  obtain rfl : ny = n := by omega
  have HSP : Hid (∀ W, Below w.heap.size w W → Calls Tryz.prog 126 #[.agg (scC u b A ny c k).toArray, .slice Y ny d] W fun e w' => (∃ bm M m, e = .returned (.agg #[.map (some bm), .slice M (digs (sall b l ny)).length m]) ∧ NM w' bm 5000 (scnt b l y ny) (-2048) 2048 ∧ NR w' M m (digs (sall b l ny))) ∧ Below W.heap.size W w') := fun W hW => spreadOf_any u b A c l k Y d y W hn hyl (h.below hW) (hy.below hW) hk hv e4
  clear hn hyl h hy hk hW0 hv hc e3 e4
  go_enter Tryz.func77, Tryz.ntmps77
  go_wp2_with (first
    | (rw [← HW0.out])
    | (refine wpList_load_row rfl 46 (.tmp 2) rfl w.heap.size rfl 46 (scC u b A ny c k).toArray (0, 0) _ x0.out Tryz.underlying46 rfl HIN.out ?_)
    | (go_at_call 99; (with_reducible refine (HCK.out _ b0.out).mono ?_); rintro e w1 ⟨rfl, hb1⟩; rw [HV.out, show ckS true = 0 from rfl]; have X1 := Lib.hid (x0.out.below' hb1); have Y1 := Lib.hid (y0.out.below' hb1); have D1 := Lib.hid (bel_on b0.out hb1); have c2 : w1.cell? ⟨w.heap.size, 2, none⟩ = some (.slice A ny c) := X1.out.cell 2; have k0 := Y1.out.cell 0; have k1 := Y1.out.cell 1; have f0 := Y1.out.frozen 0; have f1 := Y1.out.frozen 1; clear hb1)
    | (go_at_call 93; (with_reducible refine (HCP.out _ D1.out).mono ?_); rintro e w2 ⟨rfl, hb2⟩; rw [HCB.out]; clear c2 k0 k1 f0 f1; have X2 := Lib.hid (X1.out.below' hb2); have Y2 := Lib.hid (Y1.out.below' hb2); have D2 := Lib.hid (bel_on D1.out hb2); have k0 := Y2.out.cell 0; have k1 := Y2.out.cell 1; have f0 := Y2.out.frozen 0; have f1 := Y2.out.frozen 1; clear hb2)
    | (refine wpList_load_row rfl 46 (.tmp 2) rfl w.heap.size rfl 46 (scC u b A ny c k).toArray (0, 0) _ X2.out Tryz.underlying46 rfl HIN.out ?_)
    | (go_at_call 126; (with_reducible refine (HSP.out _ D2.out).mono ?_); rintro e w3 ⟨⟨bm, M, m, rfl, hm3, hn3⟩, hb3⟩; clear k0 k1 f0 f1; have Y3 := Lib.hid (Y2.out.below' hb3); have D3 := Lib.hid (bel_on D2.out hb3); have M3 := Lib.hid hm3; have N3 := Lib.hid hn3; have k0 := Y3.out.cell 0; have k1 := Y3.out.cell 1; have f0 := Y3.out.frozen 0; have f1 := Y3.out.frozen 1; clear hb3 hm3 hn3))
  have RB := (Y3.out.set_ 0 (.map (some bm))).set_ 1 (.slice M (digs (sall b l ny)).length m)
  have DF := (D3.out.setCell (p := ⟨w.heap.size + 1, 0, none⟩) (by simp) (.map (some bm))).setCell (p := ⟨w.heap.size + 1, 1, none⟩) (by simp) (.slice M (digs (sall b l ny)).length m)
  have NE := (M3.out.keep2 Y3.out 0 (.map (some bm))).keep2 (Y3.out.set_ 0 (.map (some bm))) 1 (.slice M (digs (sall b l ny)).length m)
  have NF := (N3.out.keep2 Y3.out 0 (.map (some bm))).keep2 (Y3.out.set_ 0 (.map (some bm))) 1 (.slice M (digs (sall b l ny)).length m)
  have z0 := RB.cell 0
  have z1 := RB.cell 1
  refine bodyPost_ret (v := .tuple #[.agg #[.map (some bm), .slice M (digs (sall b l ny)).length m], .int .i64 0]) (by simp [results, Tryz.f77, go_sem, z0, z1, k0, k1, f0, f1]) rfl ⟨⟨_, rfl, bm, M, m, by rw [HN.out], by rw [HN.out]; exact NE, by rw [HN.out]; exact NF⟩, DF⟩
end Go.Proofs.YtenpkmgbaajeeaaGreat

/- The sum of the counts of the scores from a number on. -/
namespace Go.Proofs.YtenpkmgbaajeeaaGreat
open Go.RowKit Go.Maps
set_option linter.unusedVariables false
set_option linter.unusedSimpArgs false

theorem sumN_bump {f g : Nat → Nat} {c j : Nat} : ∀ {n : Nat}, j < n → (∀ i, i < n → f i = g i + if i = j then c else 0) → sumN f n = sumN g n + c
  | 0, h, _ => by omega
  | n + 1, hj, h => by
    rw [sumN_succ, sumN_succ, h n (by omega)]
    by_cases e : n = j
    · subst e
      rw [if_pos rfl, sumN_congr (f := f) (g := g) fun i hi => by rw [h i (by omega), if_neg (by omega)]; rfl]
      omega
    · rw [if_neg e, sumN_bump (f := f) (g := g) (c := c) (j := j) (n := n) (by omega) fun i hi => h i (by omega)]
      omega
/-- The sum over the scores from -2048 on that reach z and are not still to come. -/
def rsumW (h : Int → Nat) (left : Int → Bool) (z : Int) : Nat := sumN (fun j => if z ≤ -2048 + (j : Int) ∧ left (-2048 + (j : Int)) = false then h (-2048 + (j : Int)) else 0) 4097
theorem rsumW_zero {h : Int → Nat} {left : Int → Bool} {z : Int} (hl : ∀ s, (-2048 ≤ s ∧ s ≤ 2048) → h s ≠ 0 → left s = true) : rsumW h left z = 0 := sumN_zero fun j hj => by
  by_cases e : h (-2048 + (j : Int)) = 0
  · rw [e]; simp
  · rw [hl _ (by omega) e]; simp
theorem rsumW_step {h : Int → Nat} {left : Int → Bool} {z s : Int} (hs : left s = true) (h1 : -2048 ≤ s) (h2 : s ≤ 2048) : rsumW h (fun t => left t && !(t == s)) z = rsumW h left z + if z ≤ s then h s else 0 := by
  unfold rsumW
  refine sumN_bump (j := (s + 2048).toNat) (by omega) fun i hi => ?_
  dsimp only
  by_cases e : i = (s + 2048).toNat
  · have e2 : -2048 + (i : Int) = s := by omega
    simp only [e2, hs, if_pos e]
    simp
  · have e2 : (-2048 + (i : Int) == s) = false := by rw [beq_eq_false_iff_ne]; omega
    simp only [e2, if_neg e]
    simp
theorem rsumW_end {b : Int} {l : List Int} {y : List UInt8} {n : Nat} {left : Int → Bool} {z : Int} (hlow : -2048 ≤ slow b l y n) (hhigh : shigh b l y n ≤ 2048) (hl : ∀ s, (-2048 ≤ s ∧ s ≤ 2048) → left s = false) : rsumW (scnt b l y n) left z = srch b l y n z := by
  have h1 := count_sum (gA b l y) (gB b l y) (cA b l) (cB l) n (-2048) z 4097 (by unfold shigh at hhigh; omega)
  have h2 : rsumW (scnt b l y n) left z = srch b l y n (max z (-2048)) := by
    unfold rsumW srch
    rw [← h1]
    refine sumN_congr fun j hj => ?_
    rw [hl _ (by omega)]
    simp [scnt]
  rw [h2]
  rcases Int.le_total (-2048) z with h3 | h3
  · rw [Int.max_eq_left h3]
  · unfold slow at hlow
    rw [Int.max_eq_right h3]
    unfold srch
    rw [reach_low _ _ _ _ _ _ hlow, reach_low _ _ _ _ _ _ (by omega)]
theorem rsumW_le {h : Int → Nat} {left : Int → Bool} {z : Int} : rsumW h left z ≤ rsumW h (fun _ => false) z := sumN_le fun j _ => by
  dsimp only
  by_cases e : z ≤ -2048 + (j : Int)
  · cases hl : left (-2048 + (j : Int)) <;> simp [e]
  · simp [e]

set_option maxHeartbeats 8000000 in
set_option maxRecDepth 1000000 in
theorem reach_any (b : Int) (l : List Int) (y : List UInt8) (n bm lm m : Nat) (M : Option Addr) (z : Int) (w : World) (hm : NM w bm 5000 (scnt b l y n) (-2048) 2048) (hlow : -2048 ≤ slow b l y n) (hhigh : shigh b l y n ≤ 2048) (hall : sall b l n ≤ 32 ^ 64) :
    Calls Tryz.prog 78 #[.agg #[.map (some bm), .slice M lm m], .int .i64 z] w fun e w' => (∃ R r, e = .returned (.slice R (digs (srch b l y n z)).length r) ∧ NR w' R r (digs (srch b l y n z))) ∧ Below w.heap.size w w' := by
  obtain ⟨f, hmf, hv⟩ := hm
  have HSB : Hid (∀ left, rsumW (scnt b l y n) left z ≤ 32 ^ 64) := fun left => by
    refine Nat.le_trans rsumW_le (Nat.le_trans (Nat.le_of_eq (rsumW_end hlow hhigh fun _ _ => rfl)) (Nat.le_trans ?_ hall))
    exact reach_all (gA b l y) (gB b l y) (cA b l) (cB l) n z
  have HEND : Hid (∀ left, (∀ s, (-2048 ≤ s ∧ s ≤ 2048) → left s = false) → rsumW (scnt b l y n) left z = srch b l y n z) := fun left hl => rsumW_end hlow hhigh hl
  have HSTART : Hid (rsumW (scnt b l y n) (fun s => (f s).isSome) z = 0) := rsumW_zero fun s hs h0 => by
    have hwf : (Lit.int .i64 s).wf = true := WalkArith.wf_i64 (by omega)
    rcases (hv s hwf).1 with ⟨h1, h2⟩ | ⟨A, c, h1, h2⟩
    · exact absurd h2 h0
    · rw [h1]; rfl
  have HV := Lib.hid hv
  have HMF := Lib.hid hmf
  obtain ⟨W0, hW0⟩ : ∃ W : World, W = w.alloc (.cells #[.map (some bm), .slice M lm m] 122) := ⟨_, rfl⟩
  have b0 : Hid (Below w.heap.size w W0) := by unfold Hid; rw [hW0]; exact alloc_bel _ _
  have x0 : Hid (Blk W0 w.heap.size 122 #[.map (some bm), .slice M lm m]) := by unfold Hid; rw [hW0]; exact Blk.new w _ _
  have c0 : W0.cell? ⟨w.heap.size, 0, none⟩ = some (.map (some bm)) := x0.out.cell 0
  have HW0 := Lib.hid hW0
  have HMU : Hid (∀ (A : Option Addr) n c W, Calls Tryz.prog 107 #[.slice A n c, .int .i64 0] W fun e w' => e = .returned (.slice A n c) ∧ Below W.heap.size W w') := fun A n c W => must_any A n c 0 W
  generalize hG : srch b l y n z = total at *
  generalize hH : scnt b l y n = h at *
  clear hmf hv hlow hhigh hall hW0 hG hH
  go_enter Tryz.func78, Tryz.ntmps78
  go_wp2_with (first
    | (rw [← HW0.out])
    | (at_range; refine wpList_range_mf _ rfl _ 120 rfl 3 25 intKey Tryz.underlying120 bm 5000 f rfl (HMF.out.below b0.out) ?_; intro w6 cnt6 hr6 hg6 hs6; have R6 := Lib.hid hr6; have D6 : Hid (Below w.heap.size w w6) := b0.out.grown hg6 b0.out.size (fun j hj => by cases hj); clear hr6 hg6 hs6))
  try go_frame
  clear c0
  go_loopw [5] (fun vs wr => ∃ (left : Int → Bool) (cnt x : Nat) (R : Option Addr) (r : Nat), vs = .slice R (digs x).length r ∧ Hid (x = rsumW h left z) ∧ Hid (NR wr R r (digs x)) ∧ Hid (MFR Tryz.prog 3 wr bm W0.heap.size 5000 f left cnt) ∧ Below w.heap.size w wr) (fun _ w' => w'.rangeLeft bm W0.heap.size)
  case atStart => exact ⟨_, cnt6, 0, none, 0, rfl, HSTART.out.symm, NR.nil _, R6.out, D6.out⟩
  case round =>
    obtain ⟨left, cnt, x, R, r, rfl, HX, HN, HR, hbel⟩ := hrel
    go_wp2_with (first
      | (at_next; refine wpList_next_mf _ rfl _ rfl 3 intKey Tryz.underlying3 bm W0.heap.size 5000 _ _ _ rfl HR.out ?_ ?_))
    · intro hl0
      have hx : x = total := by rw [HX.out]; exact HEND.out _ fun s hs => hl0 s (WalkArith.wf_i64 (by omega))
      have HX2 := Lib.hid hx
      clear hl0 hx
      go_wp2_with fail
      go_ret
      exact ⟨⟨R, r, by rw [HX2.out]; rfl, by rw [← HX2.out]; exact HN.out⟩, hbel⟩
    · intro sx vx w7 cnt7 hws hls hfs hr7 hlt7 hg7 hs7 hen
      have hin := HV.out sx hws
      have hin2 := hin.2 (by rw [hfs]; simp)
      obtain ⟨X, cx, hvx, hnx⟩ : ∃ X cx, vx = .slice X (digs (h sx)).length cx ∧ NR w X cx (digs (h sx)) := by
        rcases hin.1 with ⟨h1, h2⟩ | ⟨A, c, h1, h2⟩
        · rw [h1] at hfs; cases hfs
        · rw [h1] at hfs; injection hfs with e; exact ⟨A, c, e.symm, h2⟩
      subst hvx
      have hs1 : -2048 ≤ sx := hin2.1
      have hs2 : sx ≤ 2048 := hin2.2
      have R7 := Lib.hid hr7
      have HLT := Lib.hid hlt7
      have D7 : Hid (Below w.heap.size w w7) := hbel.grown hg7 hbel.size (fun j hj => by cases hj; exact b0.out.size)
      have N7 : Hid (NR w7 R r (digs x)) := HN.out.grownN hg7 HR.out.noCells
      have HXX := Lib.hid hnx
      have HST := Lib.hid (rsumW_step (h := h) (z := z) hls hs1 hs2)
      have HLE := Lib.hid (HSB.out (fun t => left t && !(t == sx)))
      obtain ⟨k, hk⟩ : ∃ k, h sx = k := ⟨_, rfl⟩
      rw [hk] at HXX HST hen
      obtain ⟨lk, hlk⟩ : ∃ lk, (digs k).length = lk := ⟨_, rfl⟩
      obtain ⟨lx, hlx⟩ : ∃ lx, (digs x).length = lx := ⟨_, rfl⟩
      rw [hk, hlk]
      rw [hlk] at hen
      rw [hlx]
      clear hws hls hfs hr7 hlt7 hg7 hs7 hin hin2 hnx hk
      by_cases hz : z ≤ sx
      · rw [if_pos hz] at HST
        obtain ⟨t, ht⟩ : ∃ t, x + k = t := ⟨_, rfl⟩
        have HT : Hid (t = rsumW h (fun t => left t && !(t == sx)) z) := by unfold Hid; rw [HST.out, ← HX.out, ht]
        have hsm : Sm (x + k) := by rw [ht]; exact sm_allS (by rw [HT.out]; exact HLE.out)
        obtain ⟨lt, hlt⟩ : ∃ lt, (digs t).length = lt := ⟨_, rfl⟩
        have HAD : Hid (∀ W, Below w7.heap.size w7 W → Calls Tryz.prog 108 #[.slice R lx r, .slice X lk cx] W fun e w' => (∃ T t', e = .returned (.tuple #[.slice T lt t', .int .i64 0]) ∧ NR w' T t' (digs t)) ∧ Below W.heap.size W w') := fun W hW => by
          rw [← hlt, ← ht]
          exact addD_any hsm hlx hlk (N7.out.below hW) (HXX.out.below (bel_on D7.out hW))
        have HLL := Lib.hid hlt
        clear hlt ht hsm hlx hlk
        go_wp2_with (first
          | (go_at_call 108; (with_reducible refine (HAD.out _ (Below.refl _ _)).mono ?_); rintro e w8 ⟨⟨T, t', rfl, hT⟩, hb8⟩)
          | (go_at_call 107; (with_reducible refine (HMU.out _ _ _ _).mono ?_); rintro e w9 ⟨rfl, hb9⟩))
        have hb := bel_on hb8 hb9
        go_roundw
        case rel => exact ⟨_, cnt7, t, T, t', by rw [HLL.out], HT.out, hT.below hb9, R7.out.below hb, bel_on D7.out hb⟩
        case measure => rw [(R7.out.below hb).left_eq, HR.out.left_eq]; exact HLT.out
      · rw [if_neg hz] at HST
        have HT : Hid (x = rsumW h (fun t => left t && !(t == sx)) z) := by unfold Hid; rw [HST.out, ← HX.out]; rfl
        have HLL := Lib.hid hlx
        clear hlx hlk
        go_wp2_with fail
        go_roundw
        case rel => exact ⟨_, cnt7, x, R, r, by rw [HLL.out], HT.out, N7.out, R7.out, D7.out⟩
        case measure => rw [R7.out.left_eq, HR.out.left_eq]; exact HLT.out
end Go.Proofs.YtenpkmgbaajeeaaGreat
