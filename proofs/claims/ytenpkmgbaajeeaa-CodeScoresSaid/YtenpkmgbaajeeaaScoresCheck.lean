/-
  Whether a code of scores is valid: the program and the reference.
-/
import Derived.Test.YtenpkmgbaajeeaaScoresPlain
import Derived.Test.YtenpkmgbaajeeaaKeyMem
namespace Go.Proofs.Ytenpkmgbaajeeaa
open Go.RowKit
set_option linter.unusedVariables false

def ckS (v : Bool) : Int := if v = true then 0 else 70
theorem scC_0 (u b : Int) (A : Option Addr) (n c : Nat) (k : List UInt8) : (scC u b A n c k)[0]? = some (.int .i64 u) := rfl
theorem scC_1 (u b : Int) (A : Option Addr) (n c : Nat) (k : List UInt8) : (scC u b A n c k)[1]? = some (.int .i64 b) := rfl
theorem scC_2 (u b : Int) (A : Option Addr) (n c : Nat) (k : List UInt8) : (scC u b A n c k)[2]? = some (.slice A n c) := rfl
theorem scC_0a (u b : Int) (A : Option Addr) (n c : Nat) (k : List UInt8) : (scC u b A n c k).toArray[0]? = some (.int .i64 u) := rfl
theorem scC_1a (u b : Int) (A : Option Addr) (n c : Nat) (k : List UInt8) : (scC u b A n c k).toArray[1]? = some (.int .i64 b) := rfl
theorem scC_2a (u b : Int) (A : Option Addr) (n c : Nat) (k : List UInt8) : (scC u b A n c k).toArray[2]? = some (.slice A n c) := rfl
theorem scC_info (u b : Int) (A : Option Addr) (n c : Nat) (k : List UInt8) (h : k.length = 16) : (Try.prog.info? 34).map (·.size) = some (scC u b A n c k).toArray.size := by
  rw [show (Try.prog.info? 34).map (·.size) = some 19 from by kernel_rfl]
  simp [scC, cellsB, h]
attribute [local go_sem] scC_0 scC_1 scC_2 scC_0a scC_1a scC_2a

set_option maxHeartbeats 2000000 in
set_option maxRecDepth 100000 in
theorem CheckScores_any (u b : Int) (A : Option Addr) (c : Nat) (l : List Int) (k : List UInt8) (w : World) {n : Nat} (hn : l.length = n) (h : IR w A c l) :
    Calls Try.prog 10 #[.agg (scC u b A n c k).toArray] w fun e w' => e = .returned (.int .i64 (ckS (scoresB u b l))) ∧ Below w.heap.size w w' := by
  have hlen : (n : Int) ≤ 140737488351232 := by have := h.len; omega
  have HN := Lib.hid hn
  have H := Lib.hid h
  have hNo : ∀ {p : Prop}, ¬ (1 ≤ u ∧ u ≤ 64 ∧ 2 ≤ b ∧ b ≤ 32 ∧ 1 ≤ n ∧ n ≤ 64) → scoresB u b l = false := fun h => scoresB_no (by rw [hn]; exact h)
  have hYes : (1 ≤ u ∧ u ≤ 64 ∧ 2 ≤ b ∧ b ≤ 32 ∧ 1 ≤ n ∧ n ≤ 64) → scoresB u b l = biasB b l := fun h => scoresB_bias (by rw [hn]; exact h)
  rcases scores_ways u b n with h1 | h1 | h1 | h1 | h1 | h1 | h1
  · have HS : Hid (scoresB u b l = false) := hNo (p := True) (by omega)
    have t1 : decide (u < 1) = true := by simp; omega
    clear hn h hNo hYes h1
    go_enter Try.func10, Try.ntmps10
    go_wp2_with fail
    go_ret
    exact ⟨by rw [HS.out]; rfl, alloc_bel _ _⟩
  · have HS : Hid (scoresB u b l = false) := hNo (p := True) (by omega)
    have t1 : decide (u < 1) = false := by simp; omega
    have t2 : decide (64 < u) = true := by simp; omega
    clear hn h hNo hYes h1
    go_enter Try.func10, Try.ntmps10
    go_wp2_with fail
    go_ret
    exact ⟨by rw [HS.out]; rfl, alloc_bel _ _⟩
  · have HS : Hid (scoresB u b l = false) := hNo (p := True) (by omega)
    have t1 : decide (u < 1) = false := by simp; omega
    have t2 : decide (64 < u) = false := by simp; omega
    have t3 : decide (b < 2) = true := by simp; omega
    clear hn h hNo hYes h1
    go_enter Try.func10, Try.ntmps10
    go_wp2_with fail
    go_ret
    exact ⟨by rw [HS.out]; rfl, alloc_bel _ _⟩
  · have HS : Hid (scoresB u b l = false) := hNo (p := True) (by omega)
    have t1 : decide (u < 1) = false := by simp; omega
    have t2 : decide (64 < u) = false := by simp; omega
    have t3 : decide (b < 2) = false := by simp; omega
    have t4 : decide (32 < b) = true := by simp; omega
    clear hn h hNo hYes h1
    go_enter Try.func10, Try.ntmps10
    go_wp2_with fail
    go_ret
    exact ⟨by rw [HS.out]; rfl, alloc_bel _ _⟩
  · have HS : Hid (scoresB u b l = false) := hNo (p := True) (by omega)
    have t1 : decide (u < 1) = false := by simp; omega
    have t2 : decide (64 < u) = false := by simp; omega
    have t3 : decide (b < 2) = false := by simp; omega
    have t4 : decide (32 < b) = false := by simp; omega
    have t5 : decide ((n : Int) < 1) = true := by simp; omega
    have t5' : decide (n < 1) = true := by simp; omega
    have t5'' : (n : Int) = 0 := by omega
    clear hn h hNo hYes h1
    go_enter Try.func10, Try.ntmps10
    go_wp2_with fail
    go_ret
    exact ⟨by rw [HS.out]; rfl, alloc_bel _ _⟩
  · have HS : Hid (scoresB u b l = false) := hNo (p := True) (by omega)
    have t1 : decide (u < 1) = false := by simp; omega
    have t2 : decide (64 < u) = false := by simp; omega
    have t3 : decide (b < 2) = false := by simp; omega
    have t4 : decide (32 < b) = false := by simp; omega
    have t5 : decide ((n : Int) < 1) = false := by simp; omega
    have t5' : decide (n < 1) = false := by simp; omega
    have t6 : decide ((64 : Int) < n) = true := by simp; omega
    have t6' : decide (64 < n) = true := by simp; omega
    clear hn h hNo hYes h1
    go_enter Try.func10, Try.ntmps10
    go_wp2_with fail
    go_ret
    exact ⟨by rw [HS.out]; rfl, alloc_bel _ _⟩
  · have HS : Hid (scoresB u b l = biasB b l) := hYes h1
    have t1 : decide (u < 1) = false := by simp; omega
    have t2 : decide (64 < u) = false := by simp; omega
    have t3 : decide (b < 2) = false := by simp; omega
    have t4 : decide (32 < b) = false := by simp; omega
    have t5 : decide ((n : Int) < 1) = false := by simp; omega
    have t5' : decide (n < 1) = false := by simp; omega
    have t6 : decide ((64 : Int) < n) = false := by simp; omega
    have t6' : decide (64 < n) = false := by simp; omega
    have hb32 : b ≤ 32 := h1.2.2.2.1
    have hnn : (n : Int) ≤ 64 := by omega
    clear hn h hNo hYes h1
    go_enter Try.func10, Try.ntmps10
    go_wp2_with fail
    go_loopw [38] (fun vk wr => ∃ k : Nat, k ≤ n ∧ vk = .int .i64 k ∧ Hid (∀ j, j < k → 1 ≤ it l j ∧ it l j < b) ∧ wr.cell? ⟨w.heap.size, 1, none⟩ = some (.int .i64 b) ∧ wr.cell? ⟨w.heap.size, 2, none⟩ = some (.slice A n c) ∧ Below w.heap.size w wr) (fun vk _ => n - (intOf vk).toNat)
    case atStart => exact ⟨0, by omega, rfl, fun j hj => absurd hj (by omega), (Blk.new w 34 (scC u b A n c k).toArray).cell 1, (Blk.new w 34 (scC u b A n c k).toArray).cell 2, alloc_bel _ _⟩
    case round =>
      obtain ⟨k, hk, rfl, HK, hc1, hc2, hbel⟩ := hrel
      by_cases hkn : k < n
      · obtain ⟨bb, off, rfl, hbb, hc⟩ := (H.out.below hbel).at_ (i := k) (by have := HN.out; omega)
        have hki : (k : Int) < n := by omega
        have hkl : k < l.length := by have := HN.out; omega
        have hbd := H.out.bd hkl
        have hno : ∀ hh : it l k < 1 ∨ b ≤ it l k, biasB b l = false := fun hh => biasB_no hkl hh
        have HK2 : 1 ≤ it l k ∧ it l k < b → Hid (∀ j, j < k + 1 → 1 ≤ it l j ∧ it l j < b) := fun hh j hj => by
          rcases Nat.lt_or_ge j k with h' | h'
          · exact HK.out j h'
          · rw [show j = k from by omega]; exact hh
        clear hkl
        generalize it l k = x at *
        have hw : x < 1 ∨ (1 ≤ x ∧ b ≤ x) ∨ (1 ≤ x ∧ x < b) := by omega
        rcases hw with h2 | h2 | h2
        · have s1 : decide (x < 1) = true := by simp; omega
          have HF := Lib.hid (hno (by omega))
          clear hno HK2 h2
          go_wp2_with fail
          go_ret
          exact ⟨by rw [HS.out, HF.out]; rfl, hbel⟩
        · have s1 : decide (x < 1) = false := by simp; omega
          have s2 : decide (b ≤ x) = true := by simp; omega
          have HF := Lib.hid (hno (by omega))
          clear hno HK2 h2
          go_wp2_with fail
          go_ret
          exact ⟨by rw [HS.out, HF.out]; rfl, hbel⟩
        · have s1 : decide (x < 1) = false := by simp; omega
          have s2 : decide (b ≤ x) = false := by simp; omega
          have HT := HK2 h2
          clear hno HK2 h2
          go_wp2_with fail
          go_roundw
          case rel => exact ⟨k + 1, by omega, by go_num, HT, hc1, hc2, hbel⟩
          case measure => simp [intOf]; omega
      · have HT : Hid (biasB b l = true) := biasB_iff.2 fun i hi => HK.out i (by have := HN.out; omega)
        go_wp2_with fail
        go_ret
        exact ⟨by rw [HS.out, HT.out]; rfl, hbel⟩

set_option maxHeartbeats 2000000 in
set_option maxRecDepth 100000 in
theorem refValidScores_any (u b : Int) (A : Option Addr) (c : Nat) (l : List Int) (k : List UInt8) (w : World) {n : Nat} (hn : l.length = n) (h : IR w A c l) :
    Calls Try.prog 30 #[.agg (scC u b A n c k).toArray] w fun e w' => e = .returned (.bool (scoresB u b l)) ∧ Below w.heap.size w w' := by
  have hlen : (n : Int) ≤ 140737488351232 := by have := h.len; omega
  have HN := Lib.hid hn
  have H := Lib.hid h
  have hNo : ∀ {p : Prop}, ¬ (1 ≤ u ∧ u ≤ 64 ∧ 2 ≤ b ∧ b ≤ 32 ∧ 1 ≤ n ∧ n ≤ 64) → scoresB u b l = false := fun h => scoresB_no (by rw [hn]; exact h)
  have hYes : (1 ≤ u ∧ u ≤ 64 ∧ 2 ≤ b ∧ b ≤ 32 ∧ 1 ≤ n ∧ n ≤ 64) → scoresB u b l = biasB b l := fun h => scoresB_bias (by rw [hn]; exact h)
  rcases scores_ways u b n with h1 | h1 | h1 | h1 | h1 | h1 | h1
  · have HS : Hid (scoresB u b l = false) := hNo (p := True) (by omega)
    have t1 : decide (u < 1) = true := by simp; omega
    clear hn h hNo hYes h1
    go_enter Try.func30, Try.ntmps30
    go_wp2_with fail
    go_ret
    exact ⟨by rw [HS.out]; rfl, alloc_bel _ _⟩
  · have HS : Hid (scoresB u b l = false) := hNo (p := True) (by omega)
    have t1 : decide (u < 1) = false := by simp; omega
    have t2 : decide (64 < u) = true := by simp; omega
    clear hn h hNo hYes h1
    go_enter Try.func30, Try.ntmps30
    go_wp2_with fail
    go_ret
    exact ⟨by rw [HS.out]; rfl, alloc_bel _ _⟩
  · have HS : Hid (scoresB u b l = false) := hNo (p := True) (by omega)
    have t1 : decide (u < 1) = false := by simp; omega
    have t2 : decide (64 < u) = false := by simp; omega
    have t3 : decide (b < 2) = true := by simp; omega
    clear hn h hNo hYes h1
    go_enter Try.func30, Try.ntmps30
    go_wp2_with fail
    go_ret
    exact ⟨by rw [HS.out]; rfl, alloc_bel _ _⟩
  · have HS : Hid (scoresB u b l = false) := hNo (p := True) (by omega)
    have t1 : decide (u < 1) = false := by simp; omega
    have t2 : decide (64 < u) = false := by simp; omega
    have t3 : decide (b < 2) = false := by simp; omega
    have t4 : decide (32 < b) = true := by simp; omega
    clear hn h hNo hYes h1
    go_enter Try.func30, Try.ntmps30
    go_wp2_with fail
    go_ret
    exact ⟨by rw [HS.out]; rfl, alloc_bel _ _⟩
  · have HS : Hid (scoresB u b l = false) := hNo (p := True) (by omega)
    have t1 : decide (u < 1) = false := by simp; omega
    have t2 : decide (64 < u) = false := by simp; omega
    have t3 : decide (b < 2) = false := by simp; omega
    have t4 : decide (32 < b) = false := by simp; omega
    have t5 : decide ((n : Int) < 1) = true := by simp; omega
    have t5' : decide (n < 1) = true := by simp; omega
    have t5'' : (n : Int) = 0 := by omega
    clear hn h hNo hYes h1
    go_enter Try.func30, Try.ntmps30
    go_wp2_with fail
    go_ret
    exact ⟨by rw [HS.out]; rfl, alloc_bel _ _⟩
  · have HS : Hid (scoresB u b l = false) := hNo (p := True) (by omega)
    have t1 : decide (u < 1) = false := by simp; omega
    have t2 : decide (64 < u) = false := by simp; omega
    have t3 : decide (b < 2) = false := by simp; omega
    have t4 : decide (32 < b) = false := by simp; omega
    have t5 : decide ((n : Int) < 1) = false := by simp; omega
    have t5' : decide (n < 1) = false := by simp; omega
    have t6 : decide ((64 : Int) < n) = true := by simp; omega
    have t6' : decide (64 < n) = true := by simp; omega
    clear hn h hNo hYes h1
    go_enter Try.func30, Try.ntmps30
    go_wp2_with fail
    go_ret
    exact ⟨by rw [HS.out]; rfl, alloc_bel _ _⟩
  · have HS : Hid (scoresB u b l = biasB b l) := hYes h1
    have t1 : decide (u < 1) = false := by simp; omega
    have t2 : decide (64 < u) = false := by simp; omega
    have t3 : decide (b < 2) = false := by simp; omega
    have t4 : decide (32 < b) = false := by simp; omega
    have t5 : decide ((n : Int) < 1) = false := by simp; omega
    have t5' : decide (n < 1) = false := by simp; omega
    have t6 : decide ((64 : Int) < n) = false := by simp; omega
    have t6' : decide (64 < n) = false := by simp; omega
    have hb32 : b ≤ 32 := h1.2.2.2.1
    have hnn : (n : Int) ≤ 64 := by omega
    clear hn h hNo hYes h1
    go_enter Try.func30, Try.ntmps30
    go_wp2_with fail
    go_loopw [3] (fun vk wr => ∃ k : Nat, k ≤ n ∧ vk = .int .i64 k ∧ Hid (∀ j, j < k → 1 ≤ it l j ∧ it l j < b) ∧ wr.cell? ⟨w.heap.size, 1, none⟩ = some (.int .i64 b) ∧ wr.cell? ⟨w.heap.size, 2, none⟩ = some (.slice A n c) ∧ Below w.heap.size w wr) (fun vk _ => n - (intOf vk).toNat)
    case atStart => exact ⟨0, by omega, rfl, fun j hj => absurd hj (by omega), (Blk.new w 34 (scC u b A n c k).toArray).cell 1, (Blk.new w 34 (scC u b A n c k).toArray).cell 2, alloc_bel _ _⟩
    case round =>
      obtain ⟨k, hk, rfl, HK, hc1, hc2, hbel⟩ := hrel
      by_cases hkn : k < n
      · obtain ⟨bb, off, rfl, hbb, hc⟩ := (H.out.below hbel).at_ (i := k) (by have := HN.out; omega)
        have hki : (k : Int) < n := by omega
        have hkl : k < l.length := by have := HN.out; omega
        have hbd := H.out.bd hkl
        have hno : ∀ hh : it l k < 1 ∨ b ≤ it l k, biasB b l = false := fun hh => biasB_no hkl hh
        have HK2 : 1 ≤ it l k ∧ it l k < b → Hid (∀ j, j < k + 1 → 1 ≤ it l j ∧ it l j < b) := fun hh j hj => by
          rcases Nat.lt_or_ge j k with h' | h'
          · exact HK.out j h'
          · rw [show j = k from by omega]; exact hh
        clear hkl
        generalize it l k = x at *
        have hw : x < 1 ∨ (1 ≤ x ∧ b ≤ x) ∨ (1 ≤ x ∧ x < b) := by omega
        rcases hw with h2 | h2 | h2
        · have s1 : decide (x < 1) = true := by simp; omega
          have HF := Lib.hid (hno (by omega))
          clear hno HK2 h2
          go_wp2_with fail
          go_quiet (fail)
          go_wp2_with fail
          go_ret
          exact ⟨by rw [HS.out, HF.out]; rfl, below_drewN hbel _⟩
        · have s1 : decide (x < 1) = false := by simp; omega
          have s2 : decide (b ≤ x) = true := by simp; omega
          have HF := Lib.hid (hno (by omega))
          clear hno HK2 h2
          go_wp2_with fail
          go_quiet (fail)
          go_wp2_with fail
          go_ret
          exact ⟨by rw [HS.out, HF.out]; rfl, below_drewN hbel _⟩
        · have s1 : decide (x < 1) = false := by simp; omega
          have s2 : decide (b ≤ x) = false := by simp; omega
          have HT := HK2 h2
          clear hno HK2 h2
          go_wp2_with fail
          go_quiet (fail)
          go_wp2_with fail
          go_roundw
          case rel => exact ⟨k + 1, by omega, by go_num, HT, hc1, hc2, below_drewN hbel _⟩
          case measure => simp [intOf]; omega
      · have HT : Hid (biasB b l = true) := biasB_iff.2 fun i hi => HK.out i (by have := HN.out; omega)
        go_wp2_with fail
        go_ret
        exact ⟨by rw [HS.out, HT.out]; rfl, hbel⟩

set_option maxHeartbeats 1000000 in
theorem refCheckScores_any (u b : Int) (A : Option Addr) (c : Nat) (l : List Int) (k : List UInt8) (w : World) {n : Nat} (hn : l.length = n) (h : IR w A c l) (hk : k.length = 16) :
    Calls Try.prog 11 #[.agg (scC u b A n c k).toArray] w fun e w' => e = .returned (.int .i64 (ckS (scoresB u b l))) ∧ Below w.heap.size w w' := by
  have HN := Lib.hid hn
  have H := Lib.hid h
  have HK := Lib.hid hk
  clear hn h hk
  have hv : scoresB u b l = true ∨ scoresB u b l = false := by cases scoresB u b l <;> simp
  rcases hv with hv | hv
  all_goals
    have HV := Lib.hid hv
    clear hv
    go_enter Try.func11, Try.ntmps11
    go_wp2_with (first
      | (refine wpList_load_row rfl 34 (.tmp 1) rfl w.heap.size rfl 34 (scC u b A n c k).toArray (0, 0) _ (Blk.new w _ _) Try.underlying34 rfl (scC_info u b A n c k HK.out) ?_)
      | (go_at_call 30; refine (refValidScores_any u b A c l k _ HN.out (H.out.below (alloc_bel _ _))).mono ?_; rintro e w1 ⟨rfl, hb1⟩; rw [HV.out]))
    have hbF := (alloc_bel w _).trans (hb1.mono (alloc_bel w _).size)
    go_ret
    exact ⟨by rw [HV.out]; rfl, hbF⟩
end Go.Proofs.Ytenpkmgbaajeeaa
