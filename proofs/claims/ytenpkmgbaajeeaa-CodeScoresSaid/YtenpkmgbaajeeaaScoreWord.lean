/-
  The word of a user of a code of scores: the program.
-/
import Derived.Test.YtenpkmgbaajeeaaScoresCheck
import Derived.Test.YtenpkmgbaajeeaaSpeckDer
namespace Go.Proofs.Ytenpkmgbaajeeaa
open Go.RowKit
set_option linter.unusedVariables false

theorem scC_k (u b : Int) (A : Option Addr) (n c : Nat) (k : List UInt8) (j : Nat) : (scC u b A n c k)[j + 3]? = (cellsB k)[j]? := rfl
theorem scC_ka (u b : Int) (A : Option Addr) (n c : Nat) (k : List UInt8) (j : Nat) : (scC u b A n c k).toArray[j + 3]? = (cellsB k)[j]? := by simp [scC]
attribute [local go_sem] scC_0 scC_1 scC_2 scC_0a scC_1a scC_2a scC_k scC_ka run_storeCells_new

/-- A row of zeros. -/
theorem made_bytes (n : Nat) : madeCells #[Value.int .u8 0] n = (cellsB (List.replicate n 0)).toArray := by
  apply Array.toList_inj.1
  rw [toList_madeCells_one]
  simp [cellsB]
/-- The word after i places. -/
def swP (d : List UInt8) (b : Int) (l : List Int) (i : Nat) : List UInt8 := (List.range l.length).map fun j => if j < i ∧ (numS d (UInt64.ofNat j) (UInt64.ofNat b.toNat)).toNat < (it l j).toNat then 1 else 0
theorem swP_length (d : List UInt8) (b : Int) (l : List Int) (i : Nat) : (swP d b l i).length = l.length := by simp [swP]
theorem swP_zero (d : List UInt8) (b : Int) (l : List Int) : swP d b l 0 = List.replicate l.length 0 := by
  refine List.ext_getElem (by simp [swP]) fun i h1 h2 => ?_
  simp [swP]
theorem swP_fin (k : List UInt8) (b : Int) (l : List Int) (u : Int) : swP (derS k 70 (UInt64.ofNat u.toNat)) b l l.length = scoreWordS k b l u := by
  refine List.ext_getElem (by simp [swP, scoreWordS]) fun i h1 h2 => ?_
  have : i < l.length := by simpa [swP] using h1
  simp [swP, scoreWordS, this]
theorem swP_yes {d : List UInt8} {b : Int} {l : List Int} {i : Nat} (hi : i < l.length) (h : (numS d (UInt64.ofNat i) (UInt64.ofNat b.toNat)).toNat < (it l i).toNat) : (swP d b l i).set i 1 = swP d b l (i + 1) := by
  refine List.ext_getElem (by simp [swP]) fun j h1 h2 => ?_
  simp only [swP, List.getElem_set, List.getElem_map, List.getElem_range]
  by_cases e : i = j
  · subst e; simp [h]
  · rw [if_neg e]
    have : (j < i) ↔ (j < i + 1) := by omega
    simp [this]
theorem swP_no {d : List UInt8} {b : Int} {l : List Int} {i : Nat} (h : ¬ (numS d (UInt64.ofNat i) (UInt64.ofNat b.toNat)).toNat < (it l i).toNat) : swP d b l i = swP d b l (i + 1) := by
  refine List.ext_getElem (by simp [swP]) fun j h1 h2 => ?_
  simp only [swP, List.getElem_map, List.getElem_range]
  by_cases e : j = i
  · subst e; simp [h]
  · have : (j < i) ↔ (j < i + 1) := by omega
    simp [this]
theorem Blk.ob {B : Nat} {w : World} {g : Nat} {l : List UInt8} {n c : Nat} (h : Blk w g 5 (cellsB l).toArray) (hB : B ≤ g) (hn : l.length = n) (hc : c = n) (hc2 : n ≤ 1000000) : OB B w (some ⟨g, 0, none⟩) c l := by
  subst hn hc
  exact ⟨by simp [cellsB], .inr ⟨g, _, _, rfl, hB, h, Nat.le_refl _, by simp only [maxLen]; omega, by simp [cellsB], List.take_of_length_le (by simp [cellsB])⟩⟩
theorem ofNat_toNat_int {x : Int} (h0 : 0 ≤ x) (h1 : x ≤ 1000) : ((UInt64.ofNat x.toNat).toNat : Int) = x := by
  rw [UInt64.toNat_ofNat', Nat.mod_eq_of_lt (by omega)]
  omega

set_option maxHeartbeats 2000000 in
set_option maxRecDepth 100000 in
theorem scoreWord_any (u b : Int) (A : Option Addr) (c : Nat) (l : List Int) (k : List UInt8) (x : Int) (w : World) {n : Nat} (hn : l.length = n) (h : IR w A c l) (hk : k.length = 16) (hok : scoresB u b l = true) (hx0 : 0 ≤ x) (hx1 : x ≤ 64) :
    Calls Try.prog 29 #[.agg (scC u b A n c k).toArray, .int .i64 x] w fun e w' => ∃ A' c', e = .returned (.slice A' n c') ∧ OB w.heap.size w' A' c' (scoreWordS k b l x) ∧ Below w.heap.size w w' := by
  obtain ⟨⟨o1, o2, o3, o4, o5, o6⟩, o7⟩ := scoresB_parts hok
  have hnn : (n : Int) ≤ 64 := by omega
  have hn0 : (0 : Int) ≤ n := by omega
  have HN := Lib.hid hn
  have H := Lib.hid h
  have HK := Lib.hid hk
  have HO := Lib.hid o7
  have hkl : (cellsB k).length = 16 := by rw [cellsB_length, hk]
  have HD : Hid (∀ W, Calls Try.prog 53 #[.agg (cellsB k).toArray, .int .u8 70, .int .u64 x] W fun e w' => e = .returned (.agg (cellsB (derS k 70 (UInt64.ofNat x.toNat))).toArray) ∧ Below W.heap.size W w') := fun W => by
    have := Derive_any k 70 (UInt64.ofNat x.toNat) W hk
    rw [ofNat_toNat_int hx0 (by omega)] at this
    exact this
  have HF := Lib.hid (swP_fin k b l x)
  obtain ⟨d, hd⟩ : ∃ d, derS k 70 (UInt64.ofNat x.toNat) = d := ⟨_, rfl⟩
  have hdl : d.length = 16 := by rw [← hd]; rfl
  rw [hd] at HD HF
  have HDL := Lib.hid hdl
  have hdc : (cellsB d).length = 16 := by rw [cellsB_length, hdl]
  have hall := all16 d
  have hmk := run_make_row' (P := Try.prog) 23 5 (.int .u8 0) 1 Try.underlying23 (by kernel_rfl) rfl .i64 .i64 n (by omega) (by omega)
  have HMB := Lib.hid (made_bytes n)
  clear hn h hk hok o7 hd hdl o5 o6
  go_enter Try.func29, Try.ntmps29
  go_wp2_with (go_at_call 53; rw [fold16B k HK.out]; refine (HD.out _).mono ?_; rintro e w1 ⟨rfl, hb1⟩; have hc2 : ∀ o, (w1.alloc o).cell? ⟨w.heap.size, 2, none⟩ = some (.slice A n c) := fun o => (((Blk.new w 34 (scC u b A n c k).toArray).below' hb1).alloc o).cell 2; have hc2' : ∀ o o', ((w1.alloc o).alloc o').cell? ⟨w.heap.size, 2, none⟩ = some (.slice A n c) := fun o o' => ((((Blk.new w 34 (scC u b A n c k).toArray).below' hb1).alloc o).alloc o').cell 2)
  rw [HMB.out]
  have b01 : Below w.heap.size w w1 := (alloc_bel w _).trans (hb1.mono (alloc_bel w (.cells (scC u b A n c k).toArray 34)).size)
  have s01 : w.heap.size < w1.heap.size := by have := hb1.size; simp at this; omega
  have bS : Blk w1 w.heap.size 34 (scC u b A n c k).toArray := (Blk.new w _ _).below' hb1
  go_loopw [21] (fun vk wr => ∃ i : Nat, i ≤ n ∧ vk = .int .i64 (i : Int) ∧ Blk wr w.heap.size 34 (scC u b A n c k).toArray ∧ Blk wr w1.heap.size 32 (cellsB d).toArray ∧ Hid (Blk wr (w1.heap.size + 1) 5 (cellsB (swP d b l i)).toArray) ∧ Below w.heap.size w wr) (fun vk _ => n - (intOf vk).toNat)
  case atStart => exact ⟨0, by omega, rfl, (bS.alloc _).alloc _, blk_b0 _ _ _ _, by rw [swP_zero, HN.out]; exact blk_b1 _ _ _ _, b01.trans ((alloc2_bel w1 _ _).mono b01.size)⟩
  case round =>
    obtain ⟨i, hi, rfl, hB1, hB2, HB3, hbel⟩ := hrel
    by_cases hin : i < n
    · have hil : i < l.length := by have := HN.out; omega
      obtain ⟨bb, off, rfl, hbb, hc⟩ := (H.out.below hbel).at_ (i := i) hil
      have hii : (i : Int) < n := by omega
      have hbo := HO.out i hil
      have hb32 : (b : Int) ≤ 32 := o4
      have hc1 := hB1.cell 1
      have HNum : Hid (∀ W, Calls Try.prog 54 #[.agg (cellsB d).toArray, .int .u64 (i : Int), .int .u64 b] W fun e w' => e = .returned (.int .u64 ((numS d (UInt64.ofNat i) (UInt64.ofNat b.toNat)).toNat : Int)) ∧ Below W.heap.size W w') := fun W => by
        have h1 := Number_any d (UInt64.ofNat i) (UInt64.ofNat b.toNat) W HDL.out
        rw [ofNat_toNat_int (x := b) (by omega) (by omega)] at h1
        have h2 := ofNat_toNat_int (x := (i : Int)) (by omega) (by omega)
        rw [Int.toNat_natCast] at h2
        rw [h2] at h1
        exact h1
      have hyes := fun hh => swP_yes (d := d) (b := b) hil hh
      have hno := fun hh => swP_no (d := d) (b := b) (l := l) (i := i) hh
      obtain ⟨m, hm⟩ : ∃ m, (numS d (UInt64.ofNat i) (UInt64.ofNat b.toNat)).toNat = m := ⟨_, rfl⟩
      rw [hm] at HNum hyes hno
      have hmi : (m : Int) ≤ 18446744073709551615 := by rw [← hm]; exact u64_bd _
      have HB1 := Lib.hid hB1
      have HB2 := Lib.hid hB2
      have hd3 := HB3.out.cell i
      rw [bytes_get _ i (by rw [swP_length]; exact hil)] at hd3
      have hf3 := HB3.out.frozen i
      have HIL := Lib.hid hil
      generalize it l i = a at *
      clear hm hil
      rcases Int.lt_or_le (m : Int) a with hlt | hlt
      · have HS := Lib.hid (hyes (by omega))
        have t1 : decide ((m : Int) < a) = true := by simp; omega
        clear hyes hno hlt
        have ha1 : 1 ≤ a := hbo.1
        have ha2 : a < b := hbo.2
        clear hd3 hf3
        go_wp2_with (first
          | (refine wpList_load_row rfl 32 (.tmp 5) rfl w1.heap.size rfl 32 (cellsB d).toArray (0, 0) _ HB2.out under_key rfl (cellsB_size _ HDL.out) ?_)
          | (go_at_call 54; refine (HNum.out _).mono ?_; rintro e w2 ⟨rfl, hb2⟩; have hB3 := HB3.out.below' hb2; have hd3 := hB3.cell i; rw [bytes_get _ i (by rw [swP_length]; exact HIL.out)] at hd3; have hf3 := hB3.frozen i; have HB3' := Lib.hid hB3; clear hB3))
        have hB4 := HB3'.out.set_ i (.int .u8 ((1 : UInt8).toNat : Int))
        rw [bytes_set, HS.out] at hB4
        have hbF := (hbel.trans (hb2.mono hbel.size)).setCell (p := ⟨w1.heap.size + 1, i, none⟩) (by simp; omega) (.int .u8 ((1 : UInt8).toNat : Int))
        go_roundw
        case rel => exact ⟨i + 1, by omega, by go_num, (HB1.out.below' hb2).far (p := ⟨w1.heap.size + 1, i, none⟩) (by simp; omega) _, (HB2.out.below' hb2).far (p := ⟨w1.heap.size + 1, i, none⟩) (by simp) _, hB4, hbF⟩
        case measure => simp [intOf]; omega
      · have HS := Lib.hid (hno (by omega))
        have t1 : decide ((m : Int) < a) = false := by simp; omega
        clear hyes hno hlt
        have ha1 : 1 ≤ a := hbo.1
        have ha2 : a < b := hbo.2
        clear hd3 hf3
        go_wp2_with (first
          | (refine wpList_load_row rfl 32 (.tmp 5) rfl w1.heap.size rfl 32 (cellsB d).toArray (0, 0) _ HB2.out under_key rfl (cellsB_size _ HDL.out) ?_)
          | (go_at_call 54; refine (HNum.out _).mono ?_; rintro e w2 ⟨rfl, hb2⟩))
        have hbF := hbel.trans (hb2.mono hbel.size)
        go_roundw
        case rel => exact ⟨i + 1, by omega, by go_num, HB1.out.below' hb2, HB2.out.below' hb2, by rw [← HS.out]; exact HB3.out.below' hb2, hbF⟩
        case measure => simp [intOf]; omega
    · obtain rfl : i = n := by omega
      have HB5 : Hid (Blk wr (w1.heap.size + 1) 5 (cellsB (scoreWordS k b l x)).toArray) := by
        have h1 := HB3.out
        have h2 := HF.out
        rw [HN.out] at h2
        rw [h2] at h1
        exact h1
      have HSL := Lib.hid (scoreWordS_length k b l x)
      clear hB1 hB2
      go_wp2_with fail
      go_ret
      exact ⟨_, _, rfl, HB5.out.ob (by omega) (by rw [HSL.out, HN.out]) rfl (by omega), hbel⟩
end Go.Proofs.Ytenpkmgbaajeeaa
