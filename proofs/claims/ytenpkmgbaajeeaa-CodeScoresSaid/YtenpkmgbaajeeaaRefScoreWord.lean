/-
  The word of a user of a code of scores: the reference.
-/
import Derived.Test.YtenpkmgbaajeeaaScoreWord
import Derived.Test.YtenpkmgbaajeeaaRefSpeck6
namespace Go.Proofs.Ytenpkmgbaajeeaa
open Go.RowKit
set_option linter.unusedVariables false
attribute [local go_sem] scC_0 scC_1 scC_2 scC_0a scC_1a scC_2a scC_k scC_ka run_storeCells_new

set_option maxHeartbeats 2000000 in
set_option maxRecDepth 100000 in
theorem refScoresWord_any (u b : Int) (A : Option Addr) (c : Nat) (l : List Int) (k : List UInt8) (x : Int) (w : World) {n : Nat} (hn : l.length = n) (h : IR w A c l) (hk : k.length = 16) (hok : scoresB u b l = true) (hx0 : 0 ≤ x) (hx1 : x ≤ 64) :
    Calls Try.prog 31 #[.agg (scC u b A n c k).toArray, .int .i64 x] w fun e w' => ∃ A' c', e = .returned (.slice A' n c') ∧ OB w.heap.size w' A' c' (scoreWordS k b l x) ∧ Below w.heap.size w w' := by
  obtain ⟨⟨o1, o2, o3, o4, o5, o6⟩, o7⟩ := scoresB_parts hok
  have hnn : (n : Int) ≤ 64 := by omega
  have hn0 : (0 : Int) ≤ n := by omega
  have HN := Lib.hid hn
  have H := Lib.hid h
  have HK := Lib.hid hk
  have HO := Lib.hid o7
  have hkl : (cellsB k).length = 16 := by rw [cellsB_length, hk]
  have HD : Hid (∀ W, Calls Try.prog 55 #[.agg (cellsB k).toArray, .int .u8 70, .int .u64 x] W fun e w' => e = .returned (.agg (cellsB (derS k 70 (UInt64.ofNat x.toNat))).toArray) ∧ Below W.heap.size W w') := fun W => by
    have := refDerive_any k 70 (UInt64.ofNat x.toNat) W hk
    rw [ofNat_toNat_int hx0 (by omega)] at this
    exact this
  have HF := Lib.hid (swP_fin k b l x)
  obtain ⟨d, hd⟩ : ∃ d, derS k 70 (UInt64.ofNat x.toNat) = d := ⟨_, rfl⟩
  have hdl : d.length = 16 := by rw [← hd]; rfl
  rw [hd] at HD HF
  have HDL := Lib.hid hdl
  have hdc : (cellsB d).length = 16 := by rw [cellsB_length, hdl]
  have hall := all16 d
  have hmk := run_make_row' (P := Try.prog) 23 5 (.int .u8 0) 1 Try.underlying23 (by kernel_rfl) rfl .i64 .i64 n (by omega) (by omega)
  have HMB := Lib.hid (made_bytes n)
  clear hn h hk hok o7 hd hdl o5 o6
  go_enter Try.func31, Try.ntmps31
  go_wp2_with (go_at_call 55; rw [fold16B k HK.out]; refine (HD.out _).mono ?_; rintro e w1 ⟨rfl, hb1⟩; have hc2 : ∀ o, (w1.alloc o).cell? ⟨w.heap.size, 2, none⟩ = some (.slice A n c) := fun o => (((Blk.new w 34 (scC u b A n c k).toArray).below' hb1).alloc o).cell 2; have hc2' : ∀ o o', ((w1.alloc o).alloc o').cell? ⟨w.heap.size, 2, none⟩ = some (.slice A n c) := fun o o' => ((((Blk.new w 34 (scC u b A n c k).toArray).below' hb1).alloc o).alloc o').cell 2)
  rw [HMB.out]
  have b01 : Below w.heap.size w w1 := (alloc_bel w _).trans (hb1.mono (alloc_bel w (.cells (scC u b A n c k).toArray 34)).size)
  have s01 : w.heap.size < w1.heap.size := by have := hb1.size; simp at this; omega
  have bS : Blk w1 w.heap.size 34 (scC u b A n c k).toArray := (Blk.new w _ _).below' hb1
  go_loopw [7] (fun vk wr => ∃ i : Nat, i ≤ n ∧ vk = .int .i64 (i : Int) ∧ Blk wr w.heap.size 34 (scC u b A n c k).toArray ∧ Blk wr w1.heap.size 32 (cellsB d).toArray ∧ Hid (Blk wr (w1.heap.size + 1) 5 (cellsB (swP d b l i)).toArray) ∧ Below w.heap.size w wr) (fun vk _ => n - (intOf vk).toNat)
  case atStart => exact ⟨0, by omega, rfl, (bS.alloc _).alloc _, blk_b0 _ _ _ _, by rw [swP_zero, HN.out]; exact blk_b1 _ _ _ _, b01.trans ((alloc2_bel w1 _ _).mono b01.size)⟩
  case round =>
    obtain ⟨i, hi, rfl, hB1, hB2, HB3, hbel⟩ := hrel
    by_cases hin : i < n
    · have hil : i < l.length := by have := HN.out; omega
      obtain ⟨bb, off, rfl, hbb, hc⟩ := (H.out.below hbel).at_ (i := i) hil
      have hii : (i : Int) < n := by omega
      have hbo := HO.out i hil
      have hb32 : (b : Int) ≤ 32 := o4
      have HNum : Hid (∀ W, Calls Try.prog 56 #[.agg (cellsB d).toArray, .int .u64 (i : Int), .int .u64 b] W fun e w' => e = .returned (.int .u64 ((numS d (UInt64.ofNat i) (UInt64.ofNat b.toNat)).toNat : Int)) ∧ Below W.heap.size W w') := fun W => by
        have h1 := refNumber_any d (UInt64.ofNat i) (UInt64.ofNat b.toNat) W HDL.out
        rw [ofNat_toNat_int (x := b) (by omega) (by omega)] at h1
        have h2 := ofNat_toNat_int (x := (i : Int)) (by omega) (by omega)
        rw [Int.toNat_natCast] at h2
        rw [h2] at h1
        exact h1
      have hyes := fun hh => swP_yes (d := d) (b := b) hil hh
      have hno := fun hh => swP_no (d := d) (b := b) (l := l) (i := i) hh
      obtain ⟨m, hm⟩ : ∃ m, (numS d (UInt64.ofNat i) (UInt64.ofNat b.toNat)).toNat = m := ⟨_, rfl⟩
      rw [hm] at HNum hyes hno
      have hmi : (m : Int) ≤ 18446744073709551615 := by rw [← hm]; exact u64_bd _
      have HB1 := Lib.hid hB1
      have HB2 := Lib.hid hB2
      have HIL := Lib.hid hil
      have f1 : ∀ x : Wd wr, x.w.cell? ⟨w.heap.size, 1, none⟩ = some (.int .i64 b) := fun x => (HB1.out.below' x.h).cell 1
      have f2 : ∀ x : Wd wr, x.w.cell? ⟨w.heap.size, 2, none⟩ = some (.slice (some ⟨bb, off, none⟩) n c) := fun x => (HB1.out.below' x.h).cell 2
      have f3 : ∀ (x : Wd wr) (j : Nat), x.w.cell? ⟨w1.heap.size, j, none⟩ = (cellsB d).toArray[j]? := fun x j => (HB2.out.below' x.h).cell j
      have f4 : ∀ x : Wd wr, x.w.cell? ⟨bb, off + i, none⟩ = some (.int .i64 (it l i)) := fun x => (x.h.cell (p := ⟨bb, off + i, none⟩) hbb).trans hc
      clear hB1 hB2
      generalize it l i = a at *
      clear hm hil
      rcases Int.lt_or_le (m : Int) a with hlt | hlt
      · have HS := Lib.hid (hyes (by omega))
        have t1 : decide ((m : Int) < a) = true := by simp; omega
        clear hyes hno hlt
        have ha1 : 1 ≤ a := hbo.1
        have ha2 : a < b := hbo.2
        go_wp2_with fail
        refine wp_region_wd (by kernel_rfl) (by kernel_rfl) ?_
        repeat (go_big_quiet_step ((go_at_call 56; rw [fold16B d HDL.out]; exact Wd.call _ (HNum.out _))))
        refine wpQuiet_nil ?_
        intro _ hw'
        obtain ⟨xx, hw''⟩ := hw'
        subst hw''
        have hb2 := xx.h
        have hB3 := HB3.out.below' hb2
        have hd3 := hB3.cell i
        rw [bytes_get _ i (by rw [swP_length]; exact HIL.out)] at hd3
        have hf3 := hB3.frozen i
        have HB3' := Lib.hid hB3
        clear hB3
        go_wp2_with fail
        have hB4 := HB3'.out.set_ i (.int .u8 ((1 : UInt8).toNat : Int))
        rw [bytes_set, HS.out] at hB4
        have hbF := (hbel.trans (hb2.mono hbel.size)).setCell (p := ⟨w1.heap.size + 1, i, none⟩) (by simp; omega) (.int .u8 ((1 : UInt8).toNat : Int))
        go_roundw
        case rel => exact ⟨i + 1, by omega, by go_num, (HB1.out.below' hb2).far (p := ⟨w1.heap.size + 1, i, none⟩) (by simp; omega) _, (HB2.out.below' hb2).far (p := ⟨w1.heap.size + 1, i, none⟩) (by simp) _, hB4, hbF⟩
        case measure => simp [intOf]; omega
      · have HS := Lib.hid (hno (by omega))
        have t1 : decide ((m : Int) < a) = false := by simp; omega
        clear hyes hno hlt
        have ha1 : 1 ≤ a := hbo.1
        have ha2 : a < b := hbo.2
        go_wp2_with fail
        refine wp_region_wd (by kernel_rfl) (by kernel_rfl) ?_
        repeat (go_big_quiet_step ((go_at_call 56; rw [fold16B d HDL.out]; exact Wd.call _ (HNum.out _))))
        refine wpQuiet_nil ?_
        intro _ hw'
        obtain ⟨xx, hw''⟩ := hw'
        subst hw''
        have hb2 := xx.h
        go_wp2_with fail
        have hbF := hbel.trans (hb2.mono hbel.size)
        go_roundw
        case rel => exact ⟨i + 1, by omega, by go_num, HB1.out.below' hb2, HB2.out.below' hb2, by rw [← HS.out]; exact HB3.out.below' hb2, hbF⟩
        case measure => simp [intOf]; omega
    · obtain rfl : i = n := by omega
      have HB5 : Hid (Blk wr (w1.heap.size + 1) 5 (cellsB (scoreWordS k b l x)).toArray) := by
        have h1 := HB3.out
        have h2 := HF.out
        rw [HN.out] at h2
        rw [h2] at h1
        exact h1
      have HSL := Lib.hid (scoreWordS_length k b l x)
      clear hB1 hB2
      go_wp2_with fail
      go_ret
      exact ⟨_, _, rfl, HB5.out.ob (by omega) (by rw [HSL.out, HN.out]) rfl (by omega), hbel⟩
end Go.Proofs.Ytenpkmgbaajeeaa
