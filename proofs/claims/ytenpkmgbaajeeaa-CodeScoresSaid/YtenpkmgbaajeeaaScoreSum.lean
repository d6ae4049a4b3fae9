/-
  The score: of the program and of the reference.
-/
import Derived.Test.YtenpkmgbaajeeaaScoreApi
namespace Go.Proofs.Ytenpkmgbaajeeaa
open Go.RowKit
set_option linter.unusedVariables false
attribute [local go_sem] scC_0 scC_1 scC_2 scC_0a scC_1a scC_2a

/-- What a place adds, as the program keeps it: for a 0 and for a 1. -/
def gainC (b a : Int) (y : Nat) : Array Value := #[.int .i64 (partS b a 0 y), .int .i64 (partS b a 1 y)]
theorem partS_0 (b a : Int) (w : Nat) : partS b a w 0 = if w = 0 then a else a - b := rfl
theorem partS_1 (b a : Int) (w : Nat) : partS b a w 1 = if w = 1 then b - a else -a := rfl
theorem partS_2 (b a : Int) (w : Nat) : partS b a w 2 = 0 := rfl

set_option maxHeartbeats 1000000 in
theorem gains_any (u b : Int) (A : Option Addr) (c : Nat) (l : List Int) (k : List UInt8) (Y : Option Addr) (d : Nat) (y : List UInt8) (i : Nat) (w : World) {n m : Nat} (hn : l.length = n) (hm : y.length = m) (h : IR w A c l) (hy : BR w Y d y) (hin : i < n) (him : i < m) (hb : 2 ≤ b ∧ b ≤ 32) (ha : 1 ≤ it l i ∧ it l i < b) (hyb : bt y i ≤ 2) :
    Calls Try.prog 57 #[.agg (scC u b A n c k).toArray, .slice Y m d, .int .i64 (i : Int)] w fun e w' => e = .returned (.agg #[.int .i64 (partS b (it l i) 0 (bt y i)), .int .i64 (partS b (it l i) 1 (bt y i))]) ∧ Below w.heap.size w w' := by
  have hlen : (n : Int) ≤ 140737488351232 := by have := h.len; omega
  have hmlen : (m : Int) ≤ 140737488351232 := by have := hy.len; omega
  obtain ⟨gb, go, rfl, hgb, hgc⟩ := h.at_ (i := i) (by omega)
  obtain ⟨yb, yo, rfl, hyb', hyc⟩ := hy.at_ (i := i) (by omega)
  have h1 : (i : Int) < n := by omega
  have h2 : (i : Int) < m := by omega
  generalize it l i = a at *
  generalize bt y i = z at *
  obtain ⟨hb1, hb2⟩ := hb
  obtain ⟨ha1, ha2⟩ := ha
  have bA := alloc2_bel w (.cells (scC u b (some ⟨gb, go, none⟩) n c k).toArray 34) (.cells #[.int .i64 0, .int .i64 0] 98)
  clear h hy hn hm
  have hz : z = 0 ∨ z = 1 ∨ z = 2 := by omega
  rcases hz with rfl | rfl | rfl
  all_goals
    go_enter Try.func57, Try.ntmps57
    go_wp2_with fail
    exact bodyPost_ret (results_cell_row rfl _ _ (w.heap.size + 1) _ _ (0, 0) _ rfl (blk_b1 _ _ _ _) Try.underlying98 rfl (by kernel_rfl)) rfl ⟨rfl, alloc2_bel _ _ _⟩

theorem sumS_succ (b : Int) (l : List Int) (w y : List UInt8) (k : Nat) : sumS b l w y (k + 1) = sumS b l w y k + partS b (it l k) (bt w k) (bt y k) := rfl
set_option maxHeartbeats 1000000 in
theorem score_any (u b : Int) (A : Option Addr) (c : Nat) (l : List Int) (k : List UInt8) (V : Option Addr) (e : Nat) (v : List UInt8) (Y : Option Addr) (d : Nat) (y : List UInt8) (w : World) {n : Nat} (hn : l.length = n) (hv : v.length = n) (hm : y.length = n) (h : IR w A c l) (hvr : BR w V e v) (hy : BR w Y d y) (hk : k.length = 16)
    (hok : scoresB u b l = true) (hvw : ∀ i, i < n → bt v i ≤ 1) (hyc : ∀ i, i < n → bt y i ≤ 2) :
    Calls Try.prog 32 #[.agg (scC u b A n c k).toArray, .slice V n e, .slice Y n d] w fun e w' => e = .returned (.int .i64 (sumS b l v y n)) ∧ Below w.heap.size w w' := by
  obtain ⟨⟨o1, o2, o3, o4, o5, o6⟩, o7⟩ := scoresB_parts hok
  have hnn : (n : Int) ≤ 64 := by omega
  have HSB : Hid (∀ j, j ≤ n → -(32 * (j : Int)) ≤ sumS b l v y j ∧ sumS b l v y j ≤ 32 * (j : Int)) := fun j hj => sumS_bd ⟨o3, o4⟩ o7 j (by omega)
  have HN := Lib.hid hn
  have HV := Lib.hid hv
  have HM := Lib.hid hm
  have H := Lib.hid h
  have HVR := Lib.hid hvr
  have HY := Lib.hid hy
  have HK := Lib.hid hk
  have HO := Lib.hid o7
  have HW := Lib.hid hvw
  have HC := Lib.hid hyc
  have hix0 : ∀ (p q : Int) W, (Instr.index 98 (.agg #[.int .i64 p, .int .i64 q]) (.int .u8 0)).run Try.prog W = .ok (.int .i64 p) W := fun _ _ _ => by kernel_rfl
  have hix1 : ∀ (p q : Int) W, (Instr.index 98 (.agg #[.int .i64 p, .int .i64 q]) (.int .u8 1)).run Try.prog W = .ok (.int .i64 q) W := fun _ _ _ => by kernel_rfl
  clear hn hv hm h hvr hy hk hok hvw hyc o5 o6 o7
  go_enter Try.func32, Try.ntmps32
  go_wp2_with fail
  go_loopw [7, 12] (fun vs vi wr => ∃ (i : Nat) (s : Int), i ≤ n ∧ vi = .int .i64 (i : Int) ∧ vs = .int .i64 s ∧ Hid (s = sumS b l v y i) ∧ -(32 * (i : Int)) ≤ s ∧ s ≤ 32 * (i : Int) ∧ Blk wr w.heap.size 34 (scC u b A n c k).toArray ∧ Below w.heap.size w wr) (fun _ vi _ => n - (intOf vi).toNat)
  case atStart => exact ⟨0, 0, by omega, rfl, rfl, rfl, by omega, by omega, Blk.new _ _ _, alloc_bel _ _⟩
  case round =>
    obtain ⟨i, s, hi, rfl, rfl, HS, s1, s2, hB, hbel⟩ := hrel
    by_cases hin : i < n
    · have hii : (i : Int) < n := by omega
      have hin2 : i < n := hin
      obtain ⟨vb, vo, rfl, hvb, hvc⟩ := (HVR.out.below hbel).at_ (i := i) (by have := HV.out; omega)
      have hx := HW.out i hin
      have HG : Hid (∀ W, Below wr.heap.size wr W → Calls Try.prog 57 #[.agg (scC u b A n c k).toArray, .slice Y n d, .int .i64 (i : Int)] W fun e w' => e = .returned (.agg #[.int .i64 (partS b (it l i) 0 (bt y i)), .int .i64 (partS b (it l i) 1 (bt y i))]) ∧ Below W.heap.size W w') := fun W hW =>
        gains_any u b A c l k Y d y i W HN.out HM.out ((H.out.below hbel).below hW) ((HY.out.below hbel).below hW) hin hin ⟨o3, o4⟩ (HO.out i (by have := HN.out; omega)) (HC.out i hin)
      have hp0 := partS_bd (w := 0) (y := bt y i) ⟨o3, o4⟩ (HO.out i (by have := HN.out; omega))
      have hp1 := partS_bd (w := 1) (y := bt y i) ⟨o3, o4⟩ (HO.out i (by have := HN.out; omega))
      have HSS := Lib.hid (sumS_succ b l v y i)
      have HSB2 := Lib.hid (HSB.out (i + 1) (by omega))
      obtain ⟨z, hz⟩ : ∃ z, bt v i = z := ⟨_, rfl⟩
      rw [hz] at hx hvc HSS
      obtain ⟨p0, e0⟩ : ∃ p, partS b (it l i) 0 (bt y i) = p := ⟨_, rfl⟩
      obtain ⟨p1, e1⟩ : ∃ p, partS b (it l i) 1 (bt y i) = p := ⟨_, rfl⟩
      rw [e0] at HG hp0
      rw [e1] at HG hp1
      have E0 := Lib.hid e0
      have E1 := Lib.hid e1
      have HB := Lib.hid hB
      clear hB hz hin e0 e1
      have hz01 : z = 0 ∨ z = 1 := by omega
      rcases hz01 with rfl | rfl
      all_goals
        go_wp2_with (first
          | (refine wpList_load_row rfl 34 (.tmp 3) rfl w.heap.size rfl 34 (scC u b A n c k).toArray (0, 0) _ HB.out Try.underlying34 rfl (scC_info u b A n c k HK.out) ?_)
          | (go_at_call 57; refine (HG.out _ (Below.refl _ _)).mono ?_; rintro e w2 ⟨rfl, hb2⟩))
        have hbF := hbel.trans (hb2.mono hbel.size)
        go_roundw
        case rel => exact ⟨i + 1, _, by omega, by go_num, rfl, by unfold Hid; rw [HSS.out, HS.out]; first | rw [E0.out] | rw [E1.out], by omega, by omega, HB.out.below' hb2, hbF⟩
        case measure => simp [intOf]; omega
    · obtain rfl : i = n := by omega
      go_wp2_with fail
      go_ret
      exact ⟨by rw [← HS.out]; rfl, hbel⟩

set_option maxHeartbeats 1000000 in
theorem refPart_any (b a : Int) (x z : Nat) (w : World) (hb : 2 ≤ b ∧ b ≤ 32) (ha : 1 ≤ a ∧ a < b) (hx : x ≤ 255) (hz : z ≤ 255) :
    Calls Try.prog 58 #[.int .i64 b, .int .i64 a, .int .u8 (x : Int), .int .u8 (z : Int)] w fun e w' => e = .returned (.int .i64 (partS b a x z)) ∧ w = w' := by
  obtain ⟨hb1, hb2⟩ := hb
  obtain ⟨ha1, ha2⟩ := ha
  have hx1 : (x : Int) ≤ 255 := by omega
  have hz1 : (z : Int) ≤ 255 := by omega
  have hways : z = 2 ∨ (z ≠ 2 ∧ z = 0) ∨ (z ≠ 2 ∧ z ≠ 0) := by omega
  rcases hways with h2 | ⟨h2, h0⟩ | ⟨h2, h0⟩
  · have HS : Hid (partS b a x z = 0) := by unfold Hid; rw [h2]; rfl
    have t1 : ((z : Int) == 2) = true := by simp; omega
    have t1' : (z == 2) = true := by simp; omega
    clear h2
    go_enter Try.func58, Try.ntmps58
    go_wp2_with fail
    go_ret
    exact ⟨by rw [HS.out]; rfl, rfl⟩
  · subst h0
    have HS : Hid (partS b a x 0 = if x = 0 then a else a - b) := rfl
    clear h2
    by_cases hw : x = 0
    · rw [if_pos hw] at HS
      have t3 : ((x : Int) == 0) = true := by simp; omega
      have t3' : (x == 0) = true := by simp; omega
      clear hw
      go_enter Try.func58, Try.ntmps58
      go_wp2_with fail
      go_ret
      exact ⟨by rw [HS.out]; rfl, rfl⟩
    · rw [if_neg hw] at HS
      have t3 : ((x : Int) == 0) = false := by simp; omega
      have t3' : (x == 0) = false := by simp; omega
      clear hw
      go_enter Try.func58, Try.ntmps58
      go_wp2_with fail
      go_ret
      exact ⟨by rw [HS.out]; rfl, rfl⟩
  · have HS : Hid (partS b a x z = if x = z then b - a else -a) := by unfold Hid partS; rw [if_neg h2, if_neg h0]
    have t1 : ((z : Int) == 2) = false := by simp; omega
    have t1' : (z == 2) = false := by simp; omega
    have t2 : ((z : Int) == 0) = false := by simp; omega
    have t2' : (z == 0) = false := by simp; omega
    clear h2 h0
    by_cases hw : x = z
    · rw [if_pos hw] at HS
      have t3 : ((x : Int) == (z : Int)) = true := by simp; omega
      have t3' : (x == z) = true := by simp; omega
      clear hw
      go_enter Try.func58, Try.ntmps58
      go_wp2_with fail
      go_ret
      exact ⟨by rw [HS.out]; rfl, rfl⟩
    · rw [if_neg hw] at HS
      have t3 : ((x : Int) == (z : Int)) = false := by simp; omega
      have t3' : (x == z) = false := by simp; omega
      clear hw
      go_enter Try.func58, Try.ntmps58
      go_wp2_with fail
      go_ret
      exact ⟨by rw [HS.out]; rfl, rfl⟩

set_option maxHeartbeats 1000000 in
theorem refScoreOf_any (u b : Int) (A : Option Addr) (c : Nat) (l : List Int) (k : List UInt8) (V : Option Addr) (e : Nat) (v : List UInt8) (Y : Option Addr) (d : Nat) (y : List UInt8) (w : World) {n : Nat} (hn : l.length = n) (hv : v.length = n) (hm : y.length = n) (h : IR w A c l) (hvr : BR w V e v) (hy : BR w Y d y)
    (hok : scoresB u b l = true) :
    Calls Try.prog 34 #[.agg (scC u b A n c k).toArray, .slice V n e, .slice Y n d] w fun e w' => e = .returned (.int .i64 (sumS b l v y n)) ∧ Below w.heap.size w w' := by
  obtain ⟨⟨o1, o2, o3, o4, o5, o6⟩, o7⟩ := scoresB_parts hok
  have hnn : (n : Int) ≤ 64 := by omega
  have HN := Lib.hid hn
  have HV := Lib.hid hv
  have HM := Lib.hid hm
  have H := Lib.hid h
  have HVR := Lib.hid hvr
  have HY := Lib.hid hy
  have HO := Lib.hid o7
  have HSB : Hid (∀ j, j ≤ n → -(32 * (j : Int)) ≤ sumS b l v y j ∧ sumS b l v y j ≤ 32 * (j : Int)) := fun j hj => sumS_bd ⟨o3, o4⟩ o7 j (by omega)
  clear hn hv hm h hvr hy hok o5 o6 o7
  go_enter Try.func34, Try.ntmps34
  go_wp2_with fail
  go_loopw [7, 8] (fun vs vi wr => ∃ (i : Nat) (s : Int), i ≤ n ∧ vi = .int .i64 (i : Int) ∧ vs = .int .i64 s ∧ Hid (s = sumS b l v y i) ∧ -(32 * (i : Int)) ≤ s ∧ s ≤ 32 * (i : Int) ∧ wr.cell? ⟨w.heap.size, 1, none⟩ = some (.int .i64 b) ∧ wr.cell? ⟨w.heap.size, 2, none⟩ = some (.slice A n c) ∧ Below w.heap.size w wr) (fun _ vi _ => n - (intOf vi).toNat)
  case atStart => exact ⟨0, 0, by omega, rfl, rfl, rfl, by omega, by omega, (Blk.new w 34 (scC u b A n c k).toArray).cell 1, (Blk.new w 34 (scC u b A n c k).toArray).cell 2, alloc_bel _ _⟩
  case round =>
    obtain ⟨i, s, hi, rfl, rfl, HS, s1, s2, hc1, hc2, hbel⟩ := hrel
    by_cases hin : i < n
    · have hii : (i : Int) < n := by omega
      obtain ⟨gb, go, rfl, hgb, hgc⟩ := (H.out.below hbel).at_ (i := i) (by have := HN.out; omega)
      obtain ⟨vb, vo, rfl, hvb, hvc⟩ := (HVR.out.below hbel).at_ (i := i) (by have := HV.out; omega)
      obtain ⟨yb, yo, rfl, hyb, hyc⟩ := (HY.out.below hbel).at_ (i := i) (by have := HM.out; omega)
      have hbo := HO.out i (by have := HN.out; omega)
      have hx1 := bt_lt v i
      have hx2 := bt_lt y i
      have HP : Hid (∀ q, Calls Try.prog 58 #[.int .i64 b, .int .i64 (it l i), .int .u8 (bt v i : Int), .int .u8 (bt y i : Int)] (wr.drewN q) fun e w' => e = .returned (.int .i64 (partS b (it l i) (bt v i) (bt y i))) ∧ wr.drewN q = w') := fun q => refPart_any b (it l i) (bt v i) (bt y i) _ ⟨o3, o4⟩ hbo (by omega) (by omega)
      have hpb := partS_bd (w := bt v i) (y := bt y i) ⟨o3, o4⟩ hbo
      have HSS := Lib.hid (sumS_succ b l v y i)
      have HSB2 := Lib.hid (HSB.out (i + 1) (by omega))
      obtain ⟨p, hp⟩ : ∃ p, partS b (it l i) (bt v i) (bt y i) = p := ⟨_, rfl⟩
      rw [hp] at HP hpb HSS
      clear hp hin hbo
      generalize it l i = a at *
      generalize bt v i = x at *
      generalize bt y i = z at *
      go_wp2_with fail
      go_quiet ((go_at_call 58; exact quiet_left' (HP.out _)))
      go_wp2_with fail
      go_roundw
      case rel => exact ⟨i + 1, _, by omega, by go_num, rfl, by unfold Hid; rw [HSS.out, HS.out], by omega, by omega, hc1, hc2, below_drewN hbel _⟩
      case measure => simp [intOf]; omega
    · obtain rfl : i = n := by omega
      go_wp2_with fail
      go_ret
      exact ⟨by rw [← HS.out]; rfl, hbel⟩
end Go.Proofs.Ytenpkmgbaajeeaa
