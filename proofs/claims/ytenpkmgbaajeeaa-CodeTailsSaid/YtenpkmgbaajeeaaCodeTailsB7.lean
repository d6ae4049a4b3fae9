/-
  Lemmas and contracts, joined: part 7.
-/
import Derived.Maps.RangeWalk
import Derived.Below
import Derived.Carry
import Derived.Test.YtenpkmgbaajeeaaCodeTailsB6
set_option linter.unusedSimpArgs false
set_option linter.unusedVariables false
set_option linter.unnecessarySimpa false
/- Thresholds: both sides. -/
namespace Go.Proofs.Ytenpkmgbaajeeaa
open Go.RowKit
set_option linter.unusedVariables false
set_option linter.unusedSimpArgs false

theorem dig12 {n : Nat} (h : n ≤ 2 ^ 150) : (digs n).length ≤ 12 := digs_len_le (Nat.lt_of_le_of_lt h (by decide +kernel))
theorem all12 {d : Nat} (h : d ≤ 64) : (digs (bin (2 * d) d)).length ≤ 12 := dig12 (Nat.le_trans (bin_le _ _) (Nat.pow_le_pow_right (by omega) (by omega)))
theorem divs12 {d k i : Nat} (h : d ≤ 64) (hk : k ≤ 2 * d) (hi : i ≤ k + 1) : (digs (divsN d k i)).length ≤ 12 := Nat.le_trans (digs_len_mono (divsN_le hk hi)) (all12 h)
/-- The threshold of a valid code. -/
def StV.th (s : StV) (k : Nat) : Int := thS s.b.toNat k (val s.x) (val s.y)

set_option maxHeartbeats 8000000 in
set_option maxRecDepth 100000 in
theorem threshold_any (s : StV) (k : Nat) (w : World) (h : StOK w s) (hok : s.ok = true) (hk : (k : Int) ≤ 2 * s.b) :
    Calls Try.prog 46 #[.agg s.cs.toArray, .int .i64 (k : Int)] w fun e w' => e = .returned (.int .i64 (s.th k)) ∧ Below w.heap.size w w' := by
  obtain ⟨⟨q1, q2, q3, q4⟩, hl⟩ := StV.parts hok
  obtain ⟨d, hd⟩ : ∃ d : Nat, s.b = (d : Int) := ⟨s.b.toNat, by omega⟩
  have hT : s.th k = thS d k (val s.x) (val s.y) := by unfold StV.th; rw [hd, Int.toNat_natCast]
  rw [hT]
  have h1 : 1 ≤ d := by omega
  have h2 : d ≤ 64 := by omega
  have h3 : k ≤ 2 * d := by omega
  have hks := h.k16
  obtain ⟨n, hn⟩ : ∃ n, k + n = 2 * d := ⟨2 * d - k, by omega⟩
  have hn2 : 2 * d - k = n := by omega
  have hki : (k : Int) ≤ 128 := by omega
  have hdi : (d : Int) ≤ 64 := by omega
  obtain ⟨P, hP⟩ : ∃ P, P = underB d k (val s.x) (val s.y) := ⟨_, rfl⟩
  have hPu : ∀ i, P i = decide (divsN d k (i + 1) * val s.y ≤ val s.x * bin (2 * d) d) := fun i => by rw [hP]; rfl
  have HTH : Hid (thS d k (val s.x) (val s.y) = (lead P (k + 1) : Int) - 1) := by unfold Hid; rw [hP]; rfl
  have HSM : Hid (∀ i, i ≤ k + 1 → Sm (divsN d k i)) := fun i hi => (sm_all h2).mono (divsN_le h3 hi)
  have HPK : Hid (∀ i, divsN d k (i + 1) = divsN d k i + pick k n d i) := fun i => by rw [divsN_succ, hn2]
  have HWI : Hid (∀ i, i < k + 1 → ∀ W A' c' B' e', Below w.heap.size w W → NR W A' c' (digs (divsN d k (i + 1))) → NR W B' e' (digs (bin (2 * d) d)) → Calls Try.prog 72 #[.slice A' (digs (divsN d k (i + 1))).length c', .slice B' (digs (bin (2 * d) d)).length e', .agg #[.slice s.A s.x.length s.ca, .slice s.Bd s.y.length s.cb]] W fun e w' => e = .returned (.bool (P i)) ∧ Below W.heap.size W w') := fun i hi W A' c' B' e' hW g1 g2 => by
    have := within_any (divsN d k (i + 1)) (bin (2 * d) d) A' c' B' e' s.A s.ca s.x s.Bd s.cb s.y W rfl rfl rfl rfl g1 g2 (h.hx.below hW) (h.hy.below hW) hl (divs12 h2 h3 (by omega)) (all12 h2)
    rwa [← hPu] at this
  have HDV : Hid (∀ W, Calls Try.prog 35 #[.int .i64 (d : Int), .int .i64 (k : Int)] W fun e w' => (∃ M cm O co, e = .returned (.agg (divC d k n M cm O co)) ∧ DivR W.heap.size w' k n M cm O co) ∧ Below W.heap.size W w') := fun W => divided_any d k n W h2 hn
  have HWT : Hid (∀ i, i ≤ k → ∀ B M cm O co W, DivR B W k n M cm O co → Calls Try.prog 38 #[.agg (divC d k n M cm O co), .int .i64 (i : Int)] W fun e w' => (∃ X x', e = .returned (.slice X (digs (pick k n d i)).length x') ∧ NR w' X x' (digs (pick k n d i))) ∧ Below W.heap.size W w') := fun i hi B M cm O co W hW => with_any d k n i M cm O co W hW h2 hn (by omega)
  have HAL : Hid (∀ M cm O co W, Calls Try.prog 40 #[.agg (divC d k n M cm O co)] W fun e w' => (∃ X x', e = .returned (.slice X (digs (bin (2 * d) d)).length x') ∧ NR w' X x' (digs (bin (2 * d) d))) ∧ Below W.heap.size W w') := fun M cm O co W => all_any d k n M cm O co W h2
  have HMU : Hid (∀ A n c W, Calls Try.prog 36 #[.slice A n c, .int .i64 0] W fun e w' => e = .returned (.slice A n c) ∧ Below W.heap.size W w') := fun A n c W => must_any A n c 0 W
  obtain ⟨W0, hW0⟩ : ∃ W : World, W = w.alloc (.cells s.cs.toArray 51) := ⟨_, rfl⟩
  have b0 : Hid (Below w.heap.size w W0) := by unfold Hid; rw [hW0]; exact alloc_below _ _
  have x0 : Hid (Blk W0 w.heap.size 51 s.cs.toArray) := by unfold Hid; rw [hW0]; exact Blk.new w _ _
  obtain ⟨k0, k1, k18, k19⟩ := StV.cells hks x0.out
  have HCL : Hid (∀ W, Below W0.heap.size W0 W → W.cell? ⟨w.heap.size, 1, none⟩ = some (.int .i64 (d : Int)) ∧ W.cell? ⟨w.heap.size, 18, none⟩ = some (.slice s.A s.x.length s.ca) ∧ W.cell? ⟨w.heap.size, 19, none⟩ = some (.slice s.Bd s.y.length s.cb)) := fun W hW => by
    obtain ⟨_, g1, g2, g3⟩ := StV.cells hks (x0.out.below' hW)
    rw [hd] at g1
    exact ⟨g1, g2, g3⟩
  rw [hd] at k1
  have HW0 := Lib.hid hW0
  obtain ⟨cs, hcs⟩ : ∃ c, s.cs.toArray = c := ⟨_, rfl⟩
  rw [hcs] at HW0 ⊢
  obtain ⟨SA, hA⟩ : ∃ A, s.A = A := ⟨_, rfl⟩
  obtain ⟨SB, hB⟩ : ∃ A, s.Bd = A := ⟨_, rfl⟩
  obtain ⟨sx, hsx⟩ : ∃ n, s.x.length = n := ⟨_, rfl⟩
  obtain ⟨sy, hsy⟩ : ∃ n, s.y.length = n := ⟨_, rfl⟩
  obtain ⟨sca, hca⟩ : ∃ n, s.ca = n := ⟨_, rfl⟩
  obtain ⟨scb, hcb⟩ : ∃ n, s.cb = n := ⟨_, rfl⟩
  rw [hA, hsx, hca] at HCL HWI
  rw [hB, hsy, hcb] at HCL HWI
  obtain ⟨la, hla⟩ : ∃ l, (digs (bin (2 * d) d)).length = l := ⟨_, rfl⟩
  rw [hla] at HAL HWI
  clear hT h hok hl q1 q2 q3 q4 hd h1 h2 h3 hk hn hn2 hP hPu hW0 hcs hA hB hsx hsy hca hcb hla hks x0 k0
  go_enter Try.func46, Try.ntmps46
  go_wp2_with (first
    | (rw [← HW0.out])
    | (go_at_call 35; (with_reducible refine (HDV.out _).mono ?_); rintro e w1 ⟨⟨M, cm, O, co, rfl, hr⟩, hb⟩; have R1 := Lib.hid hr; have D1 := Lib.hid hb; clear hr hb)
    | (refine wpList_store_row rfl 72 (.tmp 5) (.tmp 12) rfl w1.heap.size (divC d k n M cm O co) rfl rfl 72 #[.int .i64 0, .slice none 0 0, .slice none 0 0] (Blk.new w1 _ _) (by kernel_rfl) rfl (by simp [divC, Value.oneCell']) ?_; obtain ⟨w2, hV⟩ : ∃ W, W = (w1.alloc (.cells #[.int .i64 0, .slice none 0 0, .slice none 0 0] 72)).setRow w1.heap.size (divC d k n M cm O co) := ⟨_, rfl⟩; rw [← hV]; obtain ⟨gb, nb⟩ := box2_ _ _ _ _ hV; have D2 := Lib.hid (bel_on D1.out gb); have R2 := Lib.hid (R1.out.below gb); have G2 := Lib.hid nb; clear hV gb nb)
    | (refine wpList_load_row rfl 72 (.tmp 5) rfl (w1.heap.size) rfl 72 (divC d k n M cm O co) (0, 0) _ G2.out Try.underlying72 rfl (by kernel_rfl) ?_)
    | (go_at_call 40; (with_reducible refine (HAL.out _ _ _ _ _).mono ?_); rintro e w3 ⟨⟨LA, lc, rfl, hp⟩, hb⟩; have A3 := Lib.hid hp; have G3 := Lib.hid (G2.out.below' hb); have R3 := Lib.hid (R2.out.below hb); have D3 := Lib.hid (bel_on D2.out hb); clear hp hb))
  go_loopw [7, 8] (fun vs vi wr => ∃ (i ls s : Nat) (S : Option Addr), i ≤ k + 1 ∧ vi = .int .i64 (i : Int) ∧ vs = .slice S ls s ∧ Hid ((digs (divsN d k i)).length = ls) ∧ Hid (NR wr S s (digs (divsN d k i))) ∧ Hid (lead P i = i) ∧ Below w3.heap.size w3 wr) (fun _ vi _ => k + 1 - (intOf vi).toNat)
  case atStart => exact ⟨0, 0, 0, none, by omega, rfl, rfl, rfl, NR.nil _, rfl, Below.refl _ _⟩
  case round =>
    obtain ⟨i, ls, z, S, hi, rfl, rfl, HLS, HRS, HLD, hbel⟩ := hrel
    by_cases hlt : i < k + 1
    · have hii : (i : Int) ≤ k := by omega
      have hik : i ≤ k := by omega
      obtain ⟨lp, hlp⟩ : ∃ l, (digs (pick k n d i)).length = l := ⟨_, rfl⟩
      obtain ⟨ls2, hls2⟩ : ∃ l, (digs (divsN d k (i + 1))).length = l := ⟨_, rfl⟩
      have HW1 := Lib.hid (HWT.out i hik)
      rw [hlp] at HW1
      have HW2 := Lib.hid (HWI.out i hlt)
      rw [hls2] at HW2
      have HAD : Hid (∀ A' c' W, NR W S z (digs (divsN d k i)) → NR W A' c' (digs (pick k n d i)) → Calls Try.prog 37 #[.slice S ls z, .slice A' lp c'] W fun e w' => (∃ X x, e = .returned (.tuple #[.slice X ls2 x, .int .i64 0]) ∧ NR w' X x (digs (divsN d k (i + 1)))) ∧ Below W.heap.size W w') := fun A' c' W g1 g2 => by
        have e := HPK.out i
        have hs := HSM.out (i + 1) (by omega)
        rw [e] at hs
        have := addD_any (x := divsN d k i) (y := pick k n d i) hs HLS.out hlp g1 g2
        rwa [← e, hls2] at this
      have HLS2 := Lib.hid hls2
      have B2 := Lib.hid (G3.out.below' hbel)
      have R4 := Lib.hid (R3.out.below hbel)
      clear hlp hls2
      cases hPi : P i with
      | true =>
        have HG := Lib.hid (lead_go HLD.out hPi)
        rw [hPi] at HW2
        clear hPi
        go_wp2_with (first
          | (refine wpList_load_row rfl 72 (.tmp 5) rfl (w1.heap.size) rfl 72 (divC d k n M cm O co) (0, 0) _ B2.out Try.underlying72 rfl (by kernel_rfl) ?_)
          | (go_at_call 38; (with_reducible refine (HW1.out _ _ _ _ _ _ R4.out).mono ?_); rintro e w4 ⟨⟨P3, p3, rfl, hp⟩, hb⟩; have P4 := Lib.hid hp; have S4 := Lib.hid (HRS.out.below hb); have D4 := Lib.hid (bel_on hbel hb); clear hp hb)
          | (go_at_call 37; (with_reducible refine (HAD.out _ _ _ S4.out P4.out).mono ?_); rintro e w5 ⟨⟨S5, s5, rfl, hp⟩, hb⟩; have S6 := Lib.hid hp; have D5 := Lib.hid (bel_on D4.out hb); clear hp hb)
          | (go_at_call 36; (with_reducible refine (HMU.out _ _ _ _).mono ?_); rintro e w6 ⟨rfl, hb⟩; have S7 := Lib.hid (S6.out.below hb); have D6 := Lib.hid (bel_on D5.out hb); have A6 := Lib.hid (A3.out.below (bel_on D5.out hb)); clear hb; have E6 := Lib.hid (bel_on D3.out D6.out); obtain ⟨c1, c18, c19⟩ := HCL.out _ E6.out)
          | (go_at_call 72; (with_reducible refine (HW2.out _ _ _ _ _ (bel_on b0.out E6.out) S7.out A6.out).mono ?_); rintro e w7 ⟨rfl, hb⟩; have S8 := Lib.hid (S7.out.below hb); have D7 := Lib.hid (bel_on D6.out hb); clear hb))
        go_roundw
        case rel => exact ⟨i + 1, ls2, s5, S5, by omega, by go_num, rfl, HLS2.out, S8.out, HG.out, D7.out⟩
        case measure => simp [intOf]; omega
      | false =>
        have HG := Lib.hid (lead_stop (n := k + 1) HLD.out hPi hlt)
        rw [hPi] at HW2
        clear hPi
        go_wp2_with (first
          | (refine wpList_load_row rfl 72 (.tmp 5) rfl (w1.heap.size) rfl 72 (divC d k n M cm O co) (0, 0) _ B2.out Try.underlying72 rfl (by kernel_rfl) ?_)
          | (go_at_call 38; (with_reducible refine (HW1.out _ _ _ _ _ _ R4.out).mono ?_); rintro e w4 ⟨⟨P3, p3, rfl, hp⟩, hb⟩; have P4 := Lib.hid hp; have S4 := Lib.hid (HRS.out.below hb); have D4 := Lib.hid (bel_on hbel hb); clear hp hb)
          | (go_at_call 37; (with_reducible refine (HAD.out _ _ _ S4.out P4.out).mono ?_); rintro e w5 ⟨⟨S5, s5, rfl, hp⟩, hb⟩; have S6 := Lib.hid hp; have D5 := Lib.hid (bel_on D4.out hb); clear hp hb)
          | (go_at_call 36; (with_reducible refine (HMU.out _ _ _ _).mono ?_); rintro e w6 ⟨rfl, hb⟩; have S7 := Lib.hid (S6.out.below hb); have D6 := Lib.hid (bel_on D5.out hb); have A6 := Lib.hid (A3.out.below (bel_on D5.out hb)); clear hb; have E6 := Lib.hid (bel_on D3.out D6.out); obtain ⟨c1, c18, c19⟩ := HCL.out _ E6.out)
          | (go_at_call 72; (with_reducible refine (HW2.out _ _ _ _ _ (bel_on b0.out E6.out) S7.out A6.out).mono ?_); rintro e w7 ⟨rfl, hb⟩; have D7 := Lib.hid (bel_on D6.out hb); clear hb))
        go_ret
        refine ⟨ret_int' ?_, bel_on b0.out (bel_on D3.out D7.out)⟩
        rw [HTH.out, HG.out] <;> omega
    · obtain rfl : i = k + 1 := by omega
      have hx : ¬ (((k + 1 : Nat) : Int) ≤ k) := by omega
      have hx2 : ¬ ((k : Int) + 1 ≤ k) := by omega
      go_wp2_with fail
      go_ret
      refine ⟨ret_int' ?_, bel_on b0.out (bel_on D3.out hbel)⟩
      rw [HTH.out, HLD.out] <;> omega
end Go.Proofs.Ytenpkmgbaajeeaa

/- Thresholds: the reference's; Threshold: both sides. -/
namespace Go.Proofs.Ytenpkmgbaajeeaa
open Go.RowKit
set_option linter.unusedVariables false
set_option linter.unusedSimpArgs false

set_option maxHeartbeats 8000000 in
set_option maxRecDepth 100000 in
theorem refThresholdOf_any (s : StV) (k : Nat) (w : World) (h : StOK w s) (hok : s.ok = true) (hk : (k : Int) ≤ 2 * s.b) :
    Calls Try.prog 48 #[.agg s.cs.toArray, .int .i64 (k : Int)] w fun e w' => e = .returned (.int .i64 (s.th k)) ∧ Below w.heap.size w w' := by
  obtain ⟨⟨q1, q2, q3, q4⟩, hl⟩ := StV.parts hok
  obtain ⟨d, hd⟩ : ∃ d : Nat, s.b = (d : Int) := ⟨s.b.toNat, by omega⟩
  have hT : s.th k = thS d k (val s.x) (val s.y) := by unfold StV.th; rw [hd, Int.toNat_natCast]
  rw [hT]
  have h1 : 1 ≤ d := by omega
  have h2 : d ≤ 64 := by omega
  have h3 : k ≤ 2 * d := by omega
  have hks := h.k16
  obtain ⟨n, hn⟩ : ∃ n, k + n = 2 * d := ⟨2 * d - k, by omega⟩
  have hn2 : 2 * d - k = n := by omega
  have hki : (k : Int) ≤ 128 := by omega
  have hdi : (d : Int) ≤ 64 := by omega
  obtain ⟨P, hP⟩ : ∃ P, P = underB d k (val s.x) (val s.y) := ⟨_, rfl⟩
  have hPu : ∀ i, P i = decide (divsN d k (i + 1) * val s.y ≤ val s.x * bin (2 * d) d) := fun i => by rw [hP]; rfl
  have HTH : Hid (thS d k (val s.x) (val s.y) = (lead P (k + 1) : Int) - 1) := by unfold Hid; rw [hP]; rfl
  have HSM : Hid (∀ i, i ≤ k + 1 → Sm (divsN d k i)) := fun i hi => (sm_all h2).mono (divsN_le h3 hi)
  have HPK : Hid (∀ i, divsN d k (i + 1) = divsN d k i + pick k n d i) := fun i => by rw [divsN_succ, hn2]
  have HWI : Hid (∀ i, i < k + 1 → ∀ W A' c' B' e', Below w.heap.size w W → NR W A' c' (digs (divsN d k (i + 1))) → NR W B' e' (digs (bin (2 * d) d)) → Calls Try.prog 74 #[.slice A' (digs (divsN d k (i + 1))).length c', .slice B' (digs (bin (2 * d) d)).length e', .agg #[.slice s.A s.x.length s.ca, .slice s.Bd s.y.length s.cb]] W fun e w' => e = .returned (.bool (P i)) ∧ Below W.heap.size W w') := fun i hi W A' c' B' e' hW g1 g2 => by
    have := refWithin_any (divsN d k (i + 1)) (bin (2 * d) d) A' c' B' e' s.A s.ca s.x s.Bd s.cb s.y W rfl rfl rfl rfl g1 g2 (h.hx.below hW) (h.hy.below hW) hl (divs12 h2 h3 (by omega)) (all12 h2)
    rwa [← hPu] at this
  have HC0 : Hid (∀ W, Calls Try.prog 43 #[.int .i64 ((2 * d : Nat) : Int), .int .i64 (d : Int)] W fun e w' => (∃ A c, e = .returned (.slice A (digs (bin (2 * d) d)).length c) ∧ NR w' A c (digs (bin (2 * d) d))) ∧ Below W.heap.size W w') := fun W => choose_any (2 * d) d W (by omega) (by omega)
  have HC1 : Hid (∀ i W, Calls Try.prog 43 #[.int .i64 (k : Int), .int .i64 ((i : Nat) : Int)] W fun e w' => (∃ A c, e = .returned (.slice A (digs (chS k (i : Int))).length c) ∧ NR w' A c (digs (chS k (i : Int)))) ∧ Below W.heap.size W w') := fun i W => refChoose_any k i W (by omega)
  have HC2 : Hid (∀ z W, Calls Try.prog 43 #[.int .i64 (n : Int), .int .i64 z] W fun e w' => (∃ A c, e = .returned (.slice A (digs (chS n z)).length c) ∧ NR w' A c (digs (chS n z))) ∧ Below W.heap.size W w') := fun z W => refChoose_any n z W (by omega)
  have HS1 : Hid (∀ z, Sm (chS k z)) := fun z => (sm_pow (m := 128) (by omega)).mono (Nat.le_trans (chS_le k z) (Nat.pow_le_pow_right (by omega) (by omega)))
  have HS2 : Hid (∀ z, Sm (chS n z)) := fun z => (sm_pow (m := 128) (by omega)).mono (Nat.le_trans (chS_le n z) (Nat.pow_le_pow_right (by omega) (by omega)))
  have e1 : IntKind.i64.wrap (2 * (d : Int)) = ((2 * d : Nat) : Int) := by rw [IntKind.wrap_i64]; omega
  have e2 : IntKind.i64.wrap (((2 * d : Nat) : Int) - (k : Int)) = (n : Int) := by rw [IntKind.wrap_i64]; omega
  obtain ⟨m, hm⟩ : ∃ m, 2 * d = m := ⟨_, rfl⟩
  obtain ⟨W0, hW0⟩ : ∃ W : World, W = w.alloc (.cells s.cs.toArray 51) := ⟨_, rfl⟩
  have b0 : Hid (Below w.heap.size w W0) := by unfold Hid; rw [hW0]; exact alloc_below _ _
  have x0 : Hid (Blk W0 w.heap.size 51 s.cs.toArray) := by unfold Hid; rw [hW0]; exact Blk.new w _ _
  obtain ⟨k0, k1, k18, k19⟩ := StV.cells hks x0.out
  have HCL : Hid (∀ W, Below W0.heap.size W0 W → W.cell? ⟨w.heap.size, 1, none⟩ = some (.int .i64 (d : Int)) ∧ W.cell? ⟨w.heap.size, 18, none⟩ = some (.slice s.A s.x.length s.ca) ∧ W.cell? ⟨w.heap.size, 19, none⟩ = some (.slice s.Bd s.y.length s.cb)) := fun W hW => by
    obtain ⟨_, g1, g2, g3⟩ := StV.cells hks (x0.out.below' hW)
    rw [hd] at g1
    exact ⟨g1, g2, g3⟩
  rw [hd] at k1
  have HW0 := Lib.hid hW0
  obtain ⟨cs, hcs⟩ : ∃ c, s.cs.toArray = c := ⟨_, rfl⟩
  rw [hcs] at HW0 ⊢
  obtain ⟨SA, hA⟩ : ∃ A, s.A = A := ⟨_, rfl⟩
  obtain ⟨SB, hB⟩ : ∃ A, s.Bd = A := ⟨_, rfl⟩
  obtain ⟨sx, hsx⟩ : ∃ n, s.x.length = n := ⟨_, rfl⟩
  obtain ⟨sy, hsy⟩ : ∃ n, s.y.length = n := ⟨_, rfl⟩
  obtain ⟨sca, hca⟩ : ∃ n, s.ca = n := ⟨_, rfl⟩
  obtain ⟨scb, hcb⟩ : ∃ n, s.cb = n := ⟨_, rfl⟩
  rw [hA, hsx, hca] at HCL HWI
  rw [hB, hsy, hcb] at HCL HWI
  obtain ⟨la, hla⟩ : ∃ l, (digs (bin (2 * d) d)).length = l := ⟨_, rfl⟩
  rw [hla] at HC0 HWI
  rw [hm] at HC0 e1 e2 HWI
  clear hT h hok hl q1 q2 q3 q4 hd h1 h2 h3 hk hn hn2 hP hPu hW0 hcs hA hB hsx hsy hca hcb hla hks x0 k0 hm
  go_enter Try.func48, Try.ntmps48
  go_wp2_with (first
    | (rw [← HW0.out])
    | (go_at_call 43; (with_reducible refine (HC0.out _).mono ?_); rintro e w3 ⟨⟨LA, lc, rfl, hp⟩, hb⟩; have A3 := Lib.hid hp; have D3 := Lib.hid hb; clear hp hb))
  go_loopw [6, 7] (fun vs vi wr => ∃ (i ls s : Nat) (S : Option Addr), i ≤ k + 1 ∧ vi = .int .i64 ((i : Int) - 1) ∧ vs = .slice S ls s ∧ Hid ((digs (divsN d k i)).length = ls) ∧ Hid (NR wr S s (digs (divsN d k i))) ∧ Hid (lead P i = i) ∧ Below w3.heap.size w3 wr) (fun _ vi _ => k + 1 - (intOf vi + 1).toNat)
  case atStart => exact ⟨0, 0, 0, none, by omega, rfl, rfl, rfl, NR.nil _, rfl, Below.refl _ _⟩
  case round =>
    obtain ⟨i, ls, z0, S, hi, rfl, rfl, HLS, HRS, HLD, hbel⟩ := hrel
    by_cases hlt : i < k + 1
    · have hii : (i : Int) - 1 < k := by omega
      have hik : i ≤ k := by omega
      have e5 : IntKind.i64.wrap (i : Int) = (i : Int) := by rw [IntKind.wrap_i64]; omega
      obtain ⟨z, hz⟩ : ∃ z, (d : Int) - (i : Int) = z := ⟨_, rfl⟩
      have e3 : IntKind.i64.wrap ((d : Int) - ((i : Int) - 1)) = z + 1 := by rw [IntKind.wrap_i64]; omega
      have e4 : IntKind.i64.wrap z = z := by rw [IntKind.wrap_i64]; omega
      have hpk : chS k (i : Int) * chS n z = pick k n d i := by rw [← hz]; exact pick_chS k n d i
      obtain ⟨l1, hl1⟩ : ∃ l, (digs (chS k (i : Int))).length = l := ⟨_, rfl⟩
      obtain ⟨l2, hl2⟩ : ∃ l, (digs (chS n z)).length = l := ⟨_, rfl⟩
      obtain ⟨lp, hlp⟩ : ∃ l, (digs (pick k n d i)).length = l := ⟨_, rfl⟩
      obtain ⟨ls2, hls2⟩ : ∃ l, (digs (divsN d k (i + 1))).length = l := ⟨_, rfl⟩
      have HD1 := Lib.hid (HC1.out i)
      have HD2 := Lib.hid (HC2.out z)
      rw [hl1] at HD1
      rw [hl2] at HD2
      have HW2 := Lib.hid (HWI.out i hlt)
      rw [hls2] at HW2
      have HTM : Hid (∀ A' c' B' d' W, NR W A' c' (digs (chS k (i : Int))) → NR W B' d' (digs (chS n z)) → Calls Try.prog 69 #[.slice A' l1 c', .slice B' l2 d'] W fun e w' => (∃ A c, e = .returned (.slice A lp c) ∧ NR w' A c (digs (pick k n d i))) ∧ Below W.heap.size W w') := fun A' c' B' d' W g1 g2 => by
        have := timesD_any (HS1.out (i : Int)) (HS2.out z) hl1 hl2 g1 g2
        rwa [hpk, hlp] at this
      have HAD : Hid (∀ A' c' W, NR W S z0 (digs (divsN d k i)) → NR W A' c' (digs (pick k n d i)) → Calls Try.prog 68 #[.slice S ls z0, .slice A' lp c'] W fun e w' => (∃ X x, e = .returned (.slice X ls2 x) ∧ NR w' X x (digs (divsN d k (i + 1)))) ∧ Below W.heap.size W w') := fun A' c' W g1 g2 => by
        have e := HPK.out i
        have hs := HSM.out (i + 1) (by omega)
        rw [e] at hs
        have := plusD_any (x := divsN d k i) (y := pick k n d i) hs HLS.out hlp g1 g2
        rwa [← e, hls2] at this
      have HLS2 := Lib.hid hls2
      have HC := Lib.hid (HCL.out _ (bel_on D3.out hbel))
      generalize digs (chS k (i : Int)) = d1 at HD1 HTM
      generalize digs (chS n z) = d2 at HD2 HTM
      clear hz hpk hl1 hl2 hlp hls2
      go_wp2_with fail

      have HS : Hid (∀ W, Below wr.heap.size wr W → W.cell? ⟨w.heap.size, 1, none⟩ = some (.int .i64 (d : Int))) := fun W hW => (HCL.out _ (bel_on D3.out (bel_on hbel hW))).1
      have E0 : Below wr.heap.size wr wr := Below.refl _ _
      refine wp_region_noPanic ?_
      refine wp_region_held_drew (S := fun W => W.cell? ⟨w.heap.size, 1, none⟩ = some (.int .i64 (d : Int))) (by kernel_rfl) (HS.out _ E0.drew) (fun hS => ?_)
      have E0 := E0.drew
      refine hd_take 0 (_) rfl rfl (by kernel_rfl) (by kernel_rfl) (by kernel_rfl) (fun _ _ _ h => h) (fun w hw => by go_simp <;> rfl) hS ?_
      simp only [List.getElem_toArray, List.getElem_cons_succ, List.getElem_cons_zero, Act.put, List.setIfInBounds_toArray, List.set_cons_zero, List.set_cons_succ]
      refine hd_take 1 (_) rfl rfl (by kernel_rfl) (by kernel_rfl) (by kernel_rfl) (fun _ _ _ h => h) (fun w hw => by go_simp <;> rfl) hS ?_
      simp only [List.getElem_toArray, List.getElem_cons_succ, List.getElem_cons_zero, Act.put, List.setIfInBounds_toArray, List.set_cons_zero, List.set_cons_succ]
      refine hd_take 2 (_) rfl rfl (by kernel_rfl) (by kernel_rfl) (by kernel_rfl) (fun _ _ _ h => h) (fun w hw => by go_simp <;> rfl) hS ?_
      simp only [List.getElem_toArray, List.getElem_cons_succ, List.getElem_cons_zero, Act.put, List.setIfInBounds_toArray, List.set_cons_zero, List.set_cons_succ]
      refine hd_take 3 (.int .i64 (i : Int)) rfl rfl (by kernel_rfl) (by kernel_rfl) (by kernel_rfl) (fun _ _ _ h => h) (fun w hw => by have hx := e5; simp [go_sem, hx]) hS ?_
      simp only [List.getElem_toArray, List.getElem_cons_succ, List.getElem_cons_zero, Act.put, List.setIfInBounds_toArray, List.set_cons_zero, List.set_cons_succ]
      refine hd_take 5 (_) rfl rfl (by kernel_rfl) (by kernel_rfl) (by kernel_rfl) (fun _ _ _ h => h) (fun w hw => by go_simp <;> rfl) hS ?_
      simp only [List.getElem_toArray, List.getElem_cons_succ, List.getElem_cons_zero, Act.put, List.setIfInBounds_toArray, List.set_cons_zero, List.set_cons_succ]
      refine hd_take 6 (.int .i64 (d : Int)) rfl rfl (by kernel_rfl) (by kernel_rfl) (by kernel_rfl) (fun _ _ _ h => h) (fun w hw => by have hx := hw; simp [go_sem, hx]) hS ?_
      simp only [List.getElem_toArray, List.getElem_cons_succ, List.getElem_cons_zero, Act.put, List.setIfInBounds_toArray, List.set_cons_zero, List.set_cons_succ]
      refine hd_take 7 (.int .i64 (m : Int)) rfl rfl (by kernel_rfl) (by kernel_rfl) (by kernel_rfl) (fun _ _ _ h => h) (fun w hw => by have hx := e1; simp [go_sem, hx]) hS ?_
      simp only [List.getElem_toArray, List.getElem_cons_succ, List.getElem_cons_zero, Act.put, List.setIfInBounds_toArray, List.set_cons_zero, List.set_cons_succ]
      refine hd_take 8 (_) rfl rfl (by kernel_rfl) (by kernel_rfl) (by kernel_rfl) (fun _ _ _ h => h) (fun w hw => by go_simp <;> rfl) hS ?_
      simp only [List.getElem_toArray, List.getElem_cons_succ, List.getElem_cons_zero, Act.put, List.setIfInBounds_toArray, List.set_cons_zero, List.set_cons_succ]
      refine hd_take 9 (.int .i64 (n : Int)) rfl rfl (by kernel_rfl) (by kernel_rfl) (by kernel_rfl) (fun _ _ _ h => h) (fun w hw => by have hx := e2; simp [go_sem, hx]) hS ?_
      simp only [List.getElem_toArray, List.getElem_cons_succ, List.getElem_cons_zero, Act.put, List.setIfInBounds_toArray, List.set_cons_zero, List.set_cons_succ]
      refine hd_take 10 (_) rfl rfl (by kernel_rfl) (by kernel_rfl) (by kernel_rfl) (fun _ _ _ h => h) (fun w hw => by go_simp <;> rfl) hS ?_
      simp only [List.getElem_toArray, List.getElem_cons_succ, List.getElem_cons_zero, Act.put, List.setIfInBounds_toArray, List.set_cons_zero, List.set_cons_succ]
      refine hd_take 11 (.int .i64 (d : Int)) rfl rfl (by kernel_rfl) (by kernel_rfl) (by kernel_rfl) (fun _ _ _ h => h) (fun w hw => by have hx := hw; simp [go_sem, hx]) hS ?_
      simp only [List.getElem_toArray, List.getElem_cons_succ, List.getElem_cons_zero, Act.put, List.setIfInBounds_toArray, List.set_cons_zero, List.set_cons_succ]
      refine hd_take 12 (_) rfl rfl (by kernel_rfl) (by kernel_rfl) (by kernel_rfl) (fun _ _ _ h => h) (fun w hw => by go_simp <;> rfl) hS ?_
      simp only [List.getElem_toArray, List.getElem_cons_succ, List.getElem_cons_zero, Act.put, List.setIfInBounds_toArray, List.set_cons_zero, List.set_cons_succ]
      refine hd_take 13 (.int .i64 (z + 1)) rfl rfl (by kernel_rfl) (by kernel_rfl) (by kernel_rfl) (fun _ _ _ h => h) (fun w hw => by have hx := e3; simp [go_sem, hx]) hS ?_
      simp only [List.getElem_toArray, List.getElem_cons_succ, List.getElem_cons_zero, Act.put, List.setIfInBounds_toArray, List.set_cons_zero, List.set_cons_succ]
      refine hd_take 14 (.int .i64 z) rfl rfl (by kernel_rfl) (by kernel_rfl) (by kernel_rfl) (fun _ _ _ h => h) (fun w hw => by have hx := e4; simp [go_sem, hx]) hS ?_
      simp only [List.getElem_toArray, List.getElem_cons_succ, List.getElem_cons_zero, Act.put, List.setIfInBounds_toArray, List.set_cons_zero, List.set_cons_succ]
      refine hd_calls 4 43 #[.int .i64 (k : Int), .int .i64 (i : Int)] rfl rfl (by kernel_rfl) (by go_simp <;> rfl) ?_
      refine (HD1.out _).mono ?_
      rintro e y1 ⟨⟨oA, oc, rfl, ho⟩, hb⟩
      have E1_ := bel_on E0 hb
      have hS1_ := HS.out _ E1_
      clear hb
      refine ⟨_, rfl, hS1_, ?_⟩
      simp only [List.getElem_toArray, List.getElem_cons_succ, List.getElem_cons_zero, Act.put, List.setIfInBounds_toArray, List.set_cons_zero, List.set_cons_succ]
      refine hd_calls 15 43 #[.int .i64 (n : Int), .int .i64 z] rfl rfl (by kernel_rfl) (by go_simp <;> rfl) ?_
      refine (HD2.out _).mono ?_
      rintro e y2 ⟨⟨qA, qc, rfl, hq⟩, hb⟩
      have E2_ := bel_on E1_ hb
      have hS2_ := HS.out _ E2_
      have ho := ho.below hb
      clear hb
      refine ⟨_, rfl, hS2_, ?_⟩
      simp only [List.getElem_toArray, List.getElem_cons_succ, List.getElem_cons_zero, Act.put, List.setIfInBounds_toArray, List.set_cons_zero, List.set_cons_succ]
      refine hd_calls 16 69 #[.slice oA l1 oc, .slice qA l2 qc] rfl rfl (by kernel_rfl) (by go_simp <;> rfl) ?_
      refine (HTM.out _ _ _ _ _ ho hq).mono ?_
      rintro e y3 ⟨⟨pA, pc, rfl, hp⟩, hb⟩
      have E3_ := bel_on E2_ hb
      have hS3_ := HS.out _ E3_
      clear hb
      refine ⟨_, rfl, hS3_, ?_⟩
      simp only [List.getElem_toArray, List.getElem_cons_succ, List.getElem_cons_zero, Act.put, List.setIfInBounds_toArray, List.set_cons_zero, List.set_cons_succ]
      refine hd_calls 17 68 #[.slice S ls z0, .slice pA lp pc] rfl rfl (by kernel_rfl) (by go_simp <;> rfl) ?_
      refine (HAD.out _ _ _ (HRS.out.below E3_) hp).mono ?_
      rintro e y4 ⟨⟨S5, s5, rfl, hs⟩, hb⟩
      have E4_ := bel_on E3_ hb
      have hS4_ := HS.out _ E4_
      clear hb
      refine ⟨_, rfl, hS4_, ?_⟩
      simp only [List.getElem_toArray, List.getElem_cons_succ, List.getElem_cons_zero, Act.put, List.setIfInBounds_toArray, List.set_cons_zero, List.set_cons_succ]
      refine hd_take 18 (_) rfl rfl (by kernel_rfl) (by kernel_rfl) (by kernel_rfl) (fun _ _ _ h => h) (fun w hw => by go_simp <;> rfl) hS4_ ?_
      simp only [List.getElem_toArray, List.getElem_cons_succ, List.getElem_cons_zero, Act.put, List.setIfInBounds_toArray, List.set_cons_zero, List.set_cons_succ]
      refine wpAnyH_done (by kernel_rfl) (NoPanic.normal ?_) _
      have D4 := Lib.hid (bel_on hbel E4_)
      have S7 := Lib.hid hs
      have A6 := Lib.hid (A3.out.below D4.out)
      have E6 := Lib.hid (bel_on D3.out D4.out)
      obtain ⟨c1, c18, c19⟩ := HCL.out _ E6.out
      clear hS HS E0 ho hq hp hs hS1_ hS2_ hS3_ hS4_ E1_ E2_ E3_ E4_
      cases hPi : P i with
      | true =>
        have HG := Lib.hid (lead_go HLD.out hPi)
        rw [hPi] at HW2
        clear hPi
        go_wp2_with (first
          | (go_at_call 74; (with_reducible refine (HW2.out _ _ _ _ _ (bel_on b0.out E6.out) S7.out A6.out).mono ?_); rintro e w7 ⟨rfl, hb⟩; have S8 := Lib.hid (S7.out.below hb); have D7 := Lib.hid (bel_on D4.out hb); clear hb))
        go_roundw
        case rel => exact ⟨i + 1, ls2, s5, S5, by omega, by go_num, rfl, HLS2.out, S8.out, HG.out, D7.out⟩
        case measure => simp [intOf]; omega
      | false =>
        have HG := Lib.hid (lead_stop (n := k + 1) HLD.out hPi hlt)
        rw [hPi] at HW2
        clear hPi
        go_wp2_with (first
          | (go_at_call 74; (with_reducible refine (HW2.out _ _ _ _ _ (bel_on b0.out E6.out) S7.out A6.out).mono ?_); rintro e w7 ⟨rfl, hb⟩; have D7 := Lib.hid (bel_on D4.out hb); clear hb))
        go_ret
        refine ⟨ret_int' ?_, bel_on b0.out (bel_on D3.out D7.out)⟩
        rw [HTH.out, HG.out] <;> omega
    · obtain rfl : i = k + 1 := by omega
      have hx : ¬ (((k + 1 : Nat) : Int) - 1 < k) := by omega
      have hx2 : ¬ ((k : Int) + 1 - 1 < k) := by omega
      go_wp2_with fail
      go_ret
      refine ⟨ret_int' ?_, bel_on b0.out (bel_on D3.out hbel)⟩
      rw [HTH.out, HLD.out] <;> omega
/-- A threshold, or the error. -/
def thrS (s : StV) (k : Int) : Int × Int := if s.ok = true then (if k < 0 ∨ 2 * s.b < k then (0, 2) else (s.th k.toNat, 0)) else (0, 70)

set_option maxHeartbeats 8000000 in
set_option maxRecDepth 100000 in
theorem Threshold_any (s : StV) (k : Int) (w : World) (h : StOK w s) :
    Calls Try.prog 17 #[.agg s.cs.toArray, .int .i64 k] w fun e w' => e = .returned (.tuple #[.int .i64 (thrS s k).1, .int .i64 (thrS s k).2]) ∧ Below w.heap.size w w' := by
  have HCK : Hid (∀ W, Below w.heap.size w W → Calls Try.prog 45 #[.agg s.cs.toArray] W fun e w' => e = .returned (.int .i64 (ckSt s.ok)) ∧ Below W.heap.size W w') := fun W hW => CheckSteps_any s W (h.below hW)
  have HTO : Hid (∀ K : Nat, k = (K : Int) → s.ok = true → (K : Int) ≤ 2 * s.b → ∀ W, Below w.heap.size w W → Calls Try.prog 46 #[.agg s.cs.toArray, .int .i64 k] W fun e w' => e = .returned (.int .i64 (s.th K)) ∧ Below W.heap.size W w') := fun K hK hok hk W hW => by rw [hK]; exact threshold_any s K W (h.below hW) hok hk
  have hks := h.k16
  obtain ⟨W0, hW0⟩ : ∃ W : World, W = w.alloc (.cells s.cs.toArray 51) := ⟨_, rfl⟩
  have b0 : Hid (Below w.heap.size w W0) := by unfold Hid; rw [hW0]; exact alloc_below _ _
  have x0 : Hid (Blk W0 w.heap.size 51 s.cs.toArray) := by unfold Hid; rw [hW0]; exact Blk.new w _ _
  have HW0 := Lib.hid hW0
  have HIN := Lib.hid (StV.info (s := s) hks)
  have HCL : Hid (∀ W, Below W0.heap.size W0 W → W.cell? ⟨w.heap.size, 1, none⟩ = some (.int .i64 s.b)) := fun W hW => (StV.cells hks (x0.out.below' hW)).2.1
  clear hW0
  cases hok : s.ok with
  | false =>
    have HS : Hid (thrS s k = (0, 70)) := by unfold Hid thrS; rw [hok]; rfl
    rw [hok] at HCK
    rw [HS.out]
    generalize s.cs.toArray = cs at *
    clear h hks hok HTO
    go_enter Try.func17, Try.ntmps17
    go_wp2_with (first
      | (rw [← HW0.out])
      | (refine wpList_load_row rfl 51 (.tmp 2) rfl (w.heap.size) rfl 51 cs (0, 0) _ x0.out Try.underlying51 rfl HIN.out ?_)
      | (go_at_call 45; (with_reducible refine (HCK.out _ b0.out).mono ?_); rintro e w1 ⟨rfl, hb⟩; have D1 := Lib.hid (bel_on b0.out hb); clear hb; simp only [ckSt]))
    go_ret2
    exact ⟨rfl, D1.out⟩
  | true =>
    obtain ⟨⟨q1, q2, q3, q4⟩, _⟩ := StV.parts hok
    rw [hok] at HCK
    have HB : Hid (IntKind.i64.wrap (2 * s.b) = 2 * s.b) := by unfold Hid; rw [IntKind.wrap_i64]; omega
    by_cases hk : k < 0 ∨ 2 * s.b < k
    · have HS : Hid (thrS s k = (0, 2)) := by unfold Hid thrS; rw [hok, if_pos rfl, if_pos hk]
      rw [HS.out]
      have e1 := HB.out
      generalize s.cs.toArray = cs at *
      generalize s.b = b at *
      clear h hks hok HTO HS
      go_enter Try.func17, Try.ntmps17
      go_wp2_with (first
        | (rw [← HW0.out])
        | (refine wpList_load_row rfl 51 (.tmp 2) rfl (w.heap.size) rfl 51 cs (0, 0) _ x0.out Try.underlying51 rfl HIN.out ?_)
        | (go_at_call 45; (with_reducible refine (HCK.out _ b0.out).mono ?_); rintro e w1 ⟨rfl, hb⟩; have D1 := Lib.hid (bel_on b0.out hb); have c1 := HCL.out _ hb; clear hb; simp only [ckSt]))
      all_goals first | omega | (go_ret2; exact ⟨rfl, D1.out⟩)
    · obtain ⟨K, rfl⟩ : ∃ K : Nat, k = (K : Int) := ⟨k.toNat, by omega⟩
      have HS : Hid (thrS s (K : Int) = (s.th K, 0)) := by unfold Hid thrS; rw [hok, if_pos rfl, if_neg hk, Int.toNat_natCast]
      rw [HS.out]
      have e1 := HB.out
      have h1 : (K : Int) ≤ 2 * s.b := by omega
      have HT2 := Lib.hid (HTO.out K rfl hok h1)
      generalize s.th K = t at *
      generalize s.cs.toArray = cs at *
      generalize s.b = b at *
      clear h hks hok HTO HS hk
      go_enter Try.func17, Try.ntmps17
      go_wp2_with (first
        | (rw [← HW0.out])
        | (refine wpList_load_row rfl 51 (.tmp 2) rfl (w.heap.size) rfl 51 cs (0, 0) _ x0.out Try.underlying51 rfl HIN.out ?_)
        | (refine wpList_load_row rfl 51 (.tmp 2) rfl (w.heap.size) rfl 51 cs (0, 0) _ x1.out Try.underlying51 rfl HIN.out ?_)
        | (go_at_call 45; (with_reducible refine (HCK.out _ b0.out).mono ?_); rintro e w1 ⟨rfl, hb⟩; have D1 := Lib.hid (bel_on b0.out hb); have c1 := HCL.out _ hb; have x1 := Lib.hid (x0.out.below' hb); clear hb; simp only [ckSt])
        | (go_at_call 46; (with_reducible refine (HT2.out _ D1.out).mono ?_); rintro e w2 ⟨rfl, hb⟩; have D2 := Lib.hid (bel_on D1.out hb); clear hb))
      all_goals first | omega | (go_ret2; exact ⟨rfl, D2.out⟩)
set_option maxHeartbeats 8000000 in
set_option maxRecDepth 100000 in
theorem refThreshold_any (s : StV) (k : Int) (w : World) (h : StOK w s) :
    Calls Try.prog 18 #[.agg s.cs.toArray, .int .i64 k] w fun e w' => e = .returned (.tuple #[.int .i64 (thrS s k).1, .int .i64 (thrS s k).2]) ∧ Below w.heap.size w w' := by
  have HCK : Hid (∀ W, Below w.heap.size w W → Calls Try.prog 47 #[.agg s.cs.toArray] W fun e w' => e = .returned (.bool s.ok) ∧ Below W.heap.size W w') := fun W hW => refValidSteps_any s W (h.below hW)
  have HTO : Hid (∀ K : Nat, k = (K : Int) → s.ok = true → (K : Int) ≤ 2 * s.b → ∀ W, Below w.heap.size w W → Calls Try.prog 48 #[.agg s.cs.toArray, .int .i64 k] W fun e w' => e = .returned (.int .i64 (s.th K)) ∧ Below W.heap.size W w') := fun K hK hok hk W hW => by rw [hK]; exact refThresholdOf_any s K W (h.below hW) hok hk
  have hks := h.k16
  obtain ⟨W0, hW0⟩ : ∃ W : World, W = w.alloc (.cells s.cs.toArray 51) := ⟨_, rfl⟩
  have b0 : Hid (Below w.heap.size w W0) := by unfold Hid; rw [hW0]; exact alloc_below _ _
  have x0 : Hid (Blk W0 w.heap.size 51 s.cs.toArray) := by unfold Hid; rw [hW0]; exact Blk.new w _ _
  have HW0 := Lib.hid hW0
  have HIN := Lib.hid (StV.info (s := s) hks)
  have HCL : Hid (∀ W, Below W0.heap.size W0 W → W.cell? ⟨w.heap.size, 1, none⟩ = some (.int .i64 s.b)) := fun W hW => (StV.cells hks (x0.out.below' hW)).2.1
  clear hW0
  cases hok : s.ok with
  | false =>
    have HS : Hid (thrS s k = (0, 70)) := by unfold Hid thrS; rw [hok]; rfl
    rw [hok] at HCK
    rw [HS.out]
    generalize s.cs.toArray = cs at *
    clear h hks hok HTO
    go_enter Try.func18, Try.ntmps18
    go_wp2_with (first
      | (rw [← HW0.out])
      | (refine wpList_load_row rfl 51 (.tmp 2) rfl (w.heap.size) rfl 51 cs (0, 0) _ x0.out Try.underlying51 rfl HIN.out ?_)
      | (go_at_call 47; (with_reducible refine (HCK.out _ b0.out).mono ?_); rintro e w1 ⟨rfl, hb⟩; have D1 := Lib.hid (bel_on b0.out hb); clear hb; skip))
    go_ret2
    exact ⟨rfl, D1.out⟩
  | true =>
    obtain ⟨⟨q1, q2, q3, q4⟩, _⟩ := StV.parts hok
    rw [hok] at HCK
    have HB : Hid (IntKind.i64.wrap (2 * s.b) = 2 * s.b) := by unfold Hid; rw [IntKind.wrap_i64]; omega
    by_cases hk : k < 0 ∨ 2 * s.b < k
    · have HS : Hid (thrS s k = (0, 2)) := by unfold Hid thrS; rw [hok, if_pos rfl, if_pos hk]
      rw [HS.out]
      have e1 := HB.out
      generalize s.cs.toArray = cs at *
      generalize s.b = b at *
      clear h hks hok HTO HS
      go_enter Try.func18, Try.ntmps18
      go_wp2_with (first
        | (rw [← HW0.out])
        | (refine wpList_load_row rfl 51 (.tmp 2) rfl (w.heap.size) rfl 51 cs (0, 0) _ x0.out Try.underlying51 rfl HIN.out ?_)
        | (go_at_call 47; (with_reducible refine (HCK.out _ b0.out).mono ?_); rintro e w1 ⟨rfl, hb⟩; have D1 := Lib.hid (bel_on b0.out hb); have c1 := HCL.out _ hb; clear hb; skip))
      all_goals first | omega | (go_ret2; exact ⟨rfl, D1.out⟩)
    · obtain ⟨K, rfl⟩ : ∃ K : Nat, k = (K : Int) := ⟨k.toNat, by omega⟩
      have HS : Hid (thrS s (K : Int) = (s.th K, 0)) := by unfold Hid thrS; rw [hok, if_pos rfl, if_neg hk, Int.toNat_natCast]
      rw [HS.out]
      have e1 := HB.out
      have h1 : (K : Int) ≤ 2 * s.b := by omega
      have HT2 := Lib.hid (HTO.out K rfl hok h1)
      generalize s.th K = t at *
      generalize s.cs.toArray = cs at *
      generalize s.b = b at *
      clear h hks hok HTO HS hk
      go_enter Try.func18, Try.ntmps18
      go_wp2_with (first
        | (rw [← HW0.out])
        | (refine wpList_load_row rfl 51 (.tmp 2) rfl (w.heap.size) rfl 51 cs (0, 0) _ x0.out Try.underlying51 rfl HIN.out ?_)
        | (refine wpList_load_row rfl 51 (.tmp 2) rfl (w.heap.size) rfl 51 cs (0, 0) _ x1.out Try.underlying51 rfl HIN.out ?_)
        | (go_at_call 47; (with_reducible refine (HCK.out _ b0.out).mono ?_); rintro e w1 ⟨rfl, hb⟩; have D1 := Lib.hid (bel_on b0.out hb); have c1 := HCL.out _ hb; have x1 := Lib.hid (x0.out.below' hb); clear hb; skip)
        | (go_at_call 48; (with_reducible refine (HT2.out _ D1.out).mono ?_); rintro e w2 ⟨rfl, hb⟩; have D2 := Lib.hid (bel_on D1.out hb); clear hb))
      all_goals first | omega | (go_ret2; exact ⟨rfl, D2.out⟩)
end Go.Proofs.Ytenpkmgbaajeeaa

/- Maps keyed by int, as functions: what stands at each key. -/
namespace Go.Proofs.Ytenpkmgbaajeeaa
open Go.RowKit Go.Maps
set_option linter.unusedVariables false

/-- Each element reads as itself. -/
def heldE : Value → Option (DataW Value × List MemPlace) := fun v => some (.held v, [])
def agreesD (D : DataW Value) (f : Int → Option Value) : Prop :=
  ∀ s, (Lit.int .i64 s).wf = true → (Maps.has D (.int .i64 s) = (f s).isSome ∧ ∀ v, f s = some v → ∀ z, D.atKey (.int .i64 s) z = .held v)
/-- Block b is a map of at most n entries, and f says what it holds. -/
def MF (P : Program) (k : TypeId) (w : World) (b n : Nat) (f : Int → Option Value) : Prop := ∃ D, w.ownsMap P k heldE b n D ∧ agreesD D f
/-- .. that is ranged over by block r: the keys still to come. -/
def MFR (P : Program) (k : TypeId) (w : World) (b r n : Nat) (f : Int → Option Value) (left : Int → Bool) (cnt : Nat) : Prop :=
  ∃ D l, w.ranges P k heldE b r n D l cnt ∧ agreesD D f ∧ ∀ s, (Lit.int .i64 s).wf = true → l (.int .i64 s) = left s
def putF (f : Int → Option Value) (s : Int) (v : Value) : Int → Option Value := fun t => if t = s then some v else f t
theorem below_grownM {w w' : World} (hb : Below w.heap.size w w') (row : Option Nat) : w.grownBy w' row := ⟨hb.os, hb.tape, hb.output, hb.size, fun k hk _ => hb.block k hk⟩
theorem key_wf {s : Int} (h : (Lit.int .i64 s).wf = true) : WideAt.IsKeyLit (.int .i64 s) := trivial
theorem sameKey_int (s t : Int) : (Lit.int .i64 t).sameKey (.int .i64 s) = (t == s) := by
  by_cases h : t = s
  · subst h; rw [WideAt.sameKey_self (a := .int .i64 t) trivial]; simp
  · rw [sameKey_ne (fun e => h (by injection e))]; simp [h]
theorem len_keys : ∀ (m : Nat) (es : List (Lit × DataW Value)), es.Pairwise (fun p q => p.1 ≠ q.1) → (∀ p ∈ es, ∃ x : Nat, x < m ∧ p.1 = .int .i64 (x : Int)) → es.length ≤ m
  | 0, es, _, h => by
    cases es with
    | nil => exact Nat.le_refl _
    | cons p r => obtain ⟨x, hx, _⟩ := h p (by simp); omega
  | m + 1, es, hp, h => by
    have h1 := length_strike (k := .int .i64 (m : Int)) es hp
    have h2 := len_keys m (es.filter fun p => !p.1.sameKey (.int .i64 (m : Int))) (hp.filter _) fun p hpm => by
      rw [List.mem_filter] at hpm
      obtain ⟨x, hx, e⟩ := h p hpm.1
      refine ⟨x, ?_, e⟩
      have h3 := hpm.2
      rw [e, sameKey_int] at h3
      simp at h3
      omega
    split at h1 <;> omega
section
variable {P : Program} {k : TypeId} {w w' : World} {b r n cnt : Nat} {f : Int → Option Value} {left : Int → Bool}
theorem MF.made (w : World) (P : Program) (k : TypeId) : MF P k (w.alloc (.map #[] 0)) w.heap.size 0 (fun _ => none) :=
  ⟨_, World.ownsMap_made w P k heldE, fun s _ => ⟨rfl, fun v h => by cases h⟩⟩
theorem MF.lt (h : MF P k w b n f) : b < w.heap.size := by obtain ⟨D, h1, _⟩ := h; exact h1.lt
theorem MF.mono (h : MF P k w b n f) {n' : Nat} (hn : n ≤ n') : MF P k w b n' f := by obtain ⟨D, h1, h2⟩ := h; exact ⟨D, h1.mono hn, h2⟩
theorem MF.kept {row : Option Nat} (h : MF P k w b n f) (hg : w.grownBy w' row) (hne : some b ≠ row) : MF P k w' b n f := by obtain ⟨D, h1, h2⟩ := h; exact ⟨D, h1.kept hg hne, h2⟩
theorem MF.below (h : MF P k w b n f) (hb : Below w.heap.size w w') : MF P k w' b n f := h.kept (row := none) (below_grownM hb none) (by simp)
theorem MF.congr (h : MF P k w b n f) {g : Int → Option Value} (hg : ∀ s, (Lit.int .i64 s).wf = true → f s = g s) : MF P k w b n g := by
  obtain ⟨D, h1, h2⟩ := h
  exact ⟨D, h1, fun s hs => by rw [← hg s hs]; exact h2 s hs⟩
theorem MFR.kept {row : Option Nat} (h : MFR P k w b r n f left cnt) (hg : w.grownBy w' row) (hb : some b ≠ row) (hr : some r ≠ row) : MFR P k w' b r n f left cnt := by
  obtain ⟨D, l, h1, h2⟩ := h
  exact ⟨D, l, h1.kept hg hb hr, h2⟩
theorem MFR.below (h : MFR P k w b r n f left cnt) (hb : Below w.heap.size w w') : MFR P k w' b r n f left cnt := h.kept (row := none) (below_grownM hb none) (by simp) (by simp)
theorem MFR.mf (h : MFR P k w b r n f left cnt) : MF P k w b n f := by obtain ⟨D, l, h1, h2, _⟩ := h; exact ⟨D, h1.owns, h2⟩
theorem MFR.left_eq (h : MFR P k w b r n f left cnt) : w.rangeLeft b r = cnt := by obtain ⟨D, l, h1, _⟩ := h; exact h1.left_eq
theorem MFR.lt (h : MFR P k w b r n f left cnt) : r < w.heap.size := by obtain ⟨D, l, h1, _⟩ := h; exact h1.lt
theorem MFR.ne (h : MFR P k w b r n f left cnt) : r ≠ b := by obtain ⟨D, l, h1, _⟩ := h; exact h1.ne

/-- A map has no more entries than keys that may be there. -/
theorem MF.tight {m : Nat} (K : Keyed P k) (hk : P.underlying k = some (.int .i64)) (h : MF P k w b n f) (hf : ∀ s, (Lit.int .i64 s).wf = true → f s ≠ none → 0 ≤ s ∧ s < (m : Int)) : MF P k w b m f := by
  obtain ⟨D, h1, h2⟩ := h
  obtain ⟨es0, hD0, hp, _⟩ := h1.entries K
  obtain ⟨es, clock, hb, F, hs, hD⟩ := h1
  have hl : ((es.toList.map (WideElems.rg P k heldE)).foldr DataW.insert []).length = es.size := length_read es
  have e0 : es0 = (es.toList.map (WideElems.rg P k heldE)).foldr DataW.insert [] := by rw [hD0] at hD; injection hD
  refine ⟨D, ⟨es, clock, hb, F, ?_, hD⟩, h2⟩
  rw [← hl, ← e0]
  refine len_keys m es0 hp fun p hpm => ?_
  rw [e0, mem_sorted] at hpm
  obtain ⟨x, hx, rfl⟩ := List.mem_map.1 hpm
  obtain ⟨y, hy⟩ := F.reads x hx
  obtain ⟨z, _, ez, hz⟩ := Maps.keyOf_int_inv hk (WideElems.rd_key hy)
  rw [WideElems.rg_of hy]
  have hh : Maps.has D (.int .i64 z) = true := by
    rw [hD]
    exact List.any_eq_true.2 ⟨_, mem_sorted.2 (List.mem_map.2 ⟨x, hx, rfl⟩), by rw [WideElems.rg_of hy, ez, sameKey_int]; simp⟩
  have ha := (h2 z hz).1
  rw [hh] at ha
  have hne : f z ≠ none := fun e => by rw [e] at ha; cases ha
  obtain ⟨g1, g2⟩ := hf z hz hne
  exact ⟨z.toNat, by omega, by rw [ez]; congr 1; omega⟩
theorem MF.lookup {t e : TypeId} (h : MF P k w b n f) (K : Keyed P k) (hk : P.underlying k = some (.int .i64)) (ht : P.underlying t = some (.map k e)) {z : Value} (hz : (zeroValue e).run P w = .ok z w)
    {s : Int} (hs : (Lit.int .i64 s).wf = true) : (Instr.lookup t (.map (some b)) (.int .i64 s) false).run P w = .ok ((f s).getD z) w := by
  obtain ⟨D, h1, h2⟩ := h
  obtain ⟨v, ps, hrun, hv⟩ := h1.lookup K ht hz (zd := .held z) (zp := []) rfl (keyOf_int_mk hk hs)
  have hv' : DataW.held v = D.atKey (.int .i64 s) (.held z) := by simp [heldE] at hv; exact hv.1
  obtain ⟨ha, hb⟩ := h2 s hs
  rw [hrun]
  cases hf : f s with
  | none =>
    rw [hf] at ha
    rw [atKey_of_not_has ha] at hv'
    injection hv' with e1
    rw [e1]; rfl
  | some u =>
    rw [hb u hf] at hv'
    injection hv' with e1
    rw [e1]; rfl
theorem MF.update {t e : TypeId} (h : MF P k w b n f) (K : Keyed P k) (hk : P.underlying k = some (.int .i64)) (ht : P.underlying t = some (.map k e)) (hn : n < maxLen) {s : Int} (hs : (Lit.int .i64 s).wf = true) (v : Value) :
    ∃ w', (Instr.mapUpdate t (.map (some b)) (.int .i64 s) v).run P w = .ok () w' ∧ MF P k w' b (n + 1) (putF f s v) ∧ w.grownBy w' (some b) := by
  obtain ⟨D, h1, h2⟩ := h
  obtain ⟨w', hrun, r1, r2⟩ := h1.update K ht hn (keyOf_int_mk hk hs) (val := v) (d := .held v) (ps := []) rfl
  refine ⟨w', hrun, ⟨_, r1, fun t' ht' => ?_⟩, r2⟩
  by_cases e1 : t' = s
  · subst e1
    refine ⟨by rw [has_put_same h1.isMap (key_wf hs)]; simp [putF], fun u hu z => ?_⟩
    have : v = u := by simpa [putF] using hu
    subst this
    exact atKey_put_same h1.isMap (key_wf hs) _ _
  · have hne : (Lit.int .i64 t') ≠ .int .i64 s := fun e => e1 (by injection e)
    have hp : putF f s v t' = f t' := by simp [putF, e1]
    rw [hp]
    refine ⟨by rw [has_put_other hne]; exact (h2 t' ht').1, fun u hu z => ?_⟩
    rw [atKey_put_other hne]
    exact (h2 t' ht').2 u hu z
end
section
variable {P : Program} (w : World) {ops : Array Oper} {rest : List Oper} {o : Oper} {a : Act} {Q : Exit → Act → World → Prop}
theorem wpList_lookup_mf (hg : o.guard = none) (m x : Operand) (t : TypeId) (hop : o.op = Op.lookup t m x false) (k e : TypeId) (K : Keyed P k) (hk : P.underlying k = some (.int .i64)) (ht : P.underlying t = some (.map k e)) (z : Value) (hz : (zeroValue e).run P w = .ok z w)
    (b n : Nat) (f : Int → Option Value) (hm : a.eval m = .map (some b)) (h : MF P k w b n f) (s : Int) (hx : a.eval x = .int .i64 s) (hs : (Lit.int .i64 s).wf = true)
    (hK : wpList P ops Q rest (a.put o.dst ((f s).getD z)) w) : wpList P ops Q (o :: rest) a w := by
  refine wpList_plain hg fun K' hK' => ?_
  have hrun := h.lookup K hk ht hz hs
  unfold Oper.wp
  simp [execOp, hop, hm, hx, hrun, Result.andThen]
  exact hK' _ _ hK
theorem wpList_update_mf (hg : o.guard = none) (m x v : Operand) (t : TypeId) (hop : o.op = Op.mapUpdate t m x v) (k e : TypeId) (K : Keyed P k) (hk : P.underlying k = some (.int .i64)) (ht : P.underlying t = some (.map k e))
    (b n : Nat) (f : Int → Option Value) (hm : a.eval m = .map (some b)) (h : MF P k w b n f) (hn : n < maxLen) (s : Int) (val : Value) (hx : a.eval x = .int .i64 s) (hv : a.eval v = val) (hs : (Lit.int .i64 s).wf = true)
    (hK : ∀ w', MF P k w' b (n + 1) (putF f s val) → w.grownBy w' (some b) → wpList P ops Q rest (a.put o.dst undef) w') : wpList P ops Q (o :: rest) a w := by
  refine wpList_plain hg fun K' hK' => ?_
  obtain ⟨w', hrun, r1, r2⟩ := h.update K hk ht hn hs val
  unfold Oper.wp
  simp [execOp, hop, hm, hx, hv, hrun, Result.andThen]
  exact hK' _ _ (hK w' r1 r2)
theorem wpList_insert_mf (hg : o.guard = none) (m x v : Operand) (t : TypeId) (hop : o.op = Op.insert t m x v) (k e : TypeId) (K : Keyed P k) (hk : P.underlying k = some (.int .i64)) (ht : P.underlying t = some (.map k e))
    (b n : Nat) (f : Int → Option Value) (hm : a.eval m = .map (some b)) (h : MF P k w b n f) (hn : n < maxLen) (s : Int) (val : Value) (hx : a.eval x = .int .i64 s) (hv : a.eval v = val) (hs : (Lit.int .i64 s).wf = true)
    (hK : ∀ w', MF P k w' b (n + 1) (putF f s val) → w.grownBy w' (some b) → wpList P ops Q rest (a.put o.dst undef) w') : wpList P ops Q (o :: rest) a w := by
  refine wpList_plain hg fun K' hK' => ?_
  obtain ⟨w', hrun, r1, r2⟩ := h.update K hk ht hn hs val
  unfold Oper.wp
  simp [execOp, hop, hm, hx, hv, hrun, Result.andThen]
  exact hK' _ _ (hK w' r1 r2)
theorem wpList_range_mf (hg : o.guard = none) (m : Operand) (t : TypeId) (hop : o.op = Op.range t m) (k e : TypeId) (K : Keyed P k) (ht : P.underlying t = some (.map k e)) (b n : Nat) (f : Int → Option Value)
    (hm : a.eval m = .map (some b)) (h : MF P k w b n f)
    (hK : ∀ w' cnt, MFR P k w' b w.heap.size n f (fun s => (f s).isSome) cnt → w.grownBy w' none → w'.heap.size = w.heap.size + 1 → wpList P ops Q rest (a.put o.dst (.pointer (some ⟨w.heap.size, 0, none⟩))) w') :
    wpList P ops Q (o :: rest) a w := by
  obtain ⟨D, h1, h2⟩ := h
  exact wpList_range_own w hg m t hop k e K ht heldE b n D hm h1 fun w' r1 r2 r3 => hK w' _ ⟨D, _, r1, h2, fun s hs => (h2 s hs).1⟩ r2 r3
theorem wpList_next_mf (hg : o.guard = none) (it : Operand) (hop : o.op = Op.next it false) (k : TypeId) (K : Keyed P k) (hk : P.underlying k = some (.int .i64)) (b r n : Nat) (f : Int → Option Value) (left : Int → Bool) (cnt : Nat)
    (hit : a.eval it = .pointer (some ⟨r, 0, none⟩)) (h : MFR P k w b r n f left cnt)
    (hDone : (∀ s, (Lit.int .i64 s).wf = true → left s = false) → wpList P ops Q rest (a.put o.dst (.tuple #[.bool false])) w)
    (hMore : ∀ (s : Int) (v : Value) (w' : World) (cnt' : Nat), (Lit.int .i64 s).wf = true → left s = true → f s = some v → MFR P k w' b r n f (fun t => left t && !(t == s)) cnt' → cnt' < cnt →
      w.grownBy w' (some r) → w'.heap.size = w.heap.size → (Instr.entry (.pointer (some ⟨r, 0, none⟩))).run P w' = .ok (.tuple #[.int .i64 s, v]) w' → wpList P ops Q rest (a.put o.dst (.tuple #[.bool true, .int .i64 s, v])) w') :
    wpList P ops Q (o :: rest) a w := by
  obtain ⟨D, l, h1, h2, h3⟩ := h
  refine wpList_next_ranges w hg it hop k K heldE (α := { s : Int // (Lit.int .i64 s).wf = true }) (β := Value) (fun s => .int .i64 s.1) id
    (fun key kl hkey => by obtain ⟨x, rfl, _, hx⟩ := Maps.keyOf_int_inv hk hkey; exact ⟨⟨x, hx⟩, rfl⟩) (fun v y hv => ⟨v, rfl⟩) b r n D l cnt hit h1 (fun _ hl => hDone fun s hs => by rw [← h3 s hs]; exact hl _) ?_
  rintro ⟨s, hs⟩ v kl y w' cnt' hkey hlk hv hat hrg hlt hgr hsz hen
  dsimp only [id] at *
  have ekl : kl = .int .i64 s := by rw [keyOf_int_mk hk hs] at hkey; injection hkey with e; exact e.symm
  subst ekl
  have ey : y = (.held v, []) := by simp [heldE] at hv; exact hv.symm
  subst ey
  have hfs : f s = some v := by
    obtain ⟨ha, hb⟩ := h2 s hs
    rw [has_true_of_atKey hat] at ha
    cases hf : f s with
    | none => rw [hf] at ha; cases ha
    | some u =>
      have e1 := hb u hf .nil
      rw [hat .nil] at e1
      injection e1 with e1
      rw [e1]
  refine hMore s v w' cnt' hs (by rw [← h3 s hs]; exact hlk) hfs ⟨D, _, hrg, h2, fun t ht => ?_⟩ hlt hgr hsz hen
  show (l (.int .i64 t) && !(Lit.int .i64 t).sameKey (.int .i64 s)) = _
  rw [h3 t ht, sameKey_int]
end
end Go.Proofs.Ytenpkmgbaajeeaa

/- Whether a code of steps is complete: the program's. -/
namespace Go.Proofs.Ytenpkmgbaajeeaa
open Go.RowKit Go.Maps
set_option linter.unusedVariables false
set_option linter.unusedSimpArgs false

theorem intKey : Keyed Try.prog 3 := int_keyed Try.underlying3
theorem zeroBool (w : World) : (zeroValue 4).run Try.prog w = .ok (.bool false) w := by kernel_rfl
/-- The thresholds known so far, and zeros. -/
def mostC (t : Nat → Int) (k : Nat) : List Value := (List.range 129).map fun j => .int .i64 (if j < k then t j else 0)
theorem mostC_len (t : Nat → Int) (k : Nat) : (mostC t k).length = 129 := by simp [mostC]
theorem mostC_set (t : Nat → Int) {k : Nat} (hk : k < 129) : (mostC t k).set k (.int .i64 (t k)) = mostC t (k + 1) := by
  refine List.ext_getElem (by simp [mostC]) fun i h1 h2 => ?_
  simp only [mostC, List.getElem_set, List.getElem_map, List.getElem_range]
  by_cases e : k = i
  · subst e; simp
  · rw [if_neg e]
    have : (i < k) ↔ (i < k + 1) := by omega
    simp [this]
theorem mostC_get {t : Nat → Int} {k i : Nat} (hi : i < k) (hk : k ≤ 129) : (mostC t k).toArray[i]? = some (.int .i64 (t i)) := by
  simp [mostC, show i < 129 by omega, hi]
theorem mostC_at {t : Nat → Int} {k : Nat} (hk : k < 129) : (mostC t k).toArray[k]? = some (.int .i64 0) := by
  simp [mostC, hk]
theorem zero129 : Try.zeroCells87 = (List.replicate 129 (Value.int .i64 0)).toArray := by kernel_rfl
theorem mostC_zero (t : Nat → Int) : Try.zeroCells87 = (mostC t 0).toArray := by
  have e : mostC t 0 = List.replicate 129 (.int .i64 0) := by
    refine List.ext_getElem (by simp [mostC]) fun i h1 h2 => ?_
    simp only [mostC, List.getElem_map, List.getElem_range, List.getElem_replicate]
    rfl
  rw [e, zero129]
theorem mostC_put (t : Nat → Int) {k : Nat} (hk : k < 129) : (mostC t k).toArray.setIfInBounds k (.int .i64 (t k)) = (mostC t (k + 1)).toArray := by
  rw [List.setIfInBounds_toArray, mostC_set t hk]
/-- A set of numbers up to d, as a map. -/
def setF (d : Nat) (p : Nat → Bool) : Int → Option Value := fun s => if 0 ≤ s ∧ s ≤ (d : Int) ∧ p s.toNat = true then some (.bool true) else none
theorem setF_nat {d : Nat} {p : Nat → Bool} (x : Nat) : setF d p (x : Int) = if x ≤ d ∧ p x = true then some (.bool true) else none := by
  unfold setF
  rw [Int.toNat_natCast]
  by_cases h : x ≤ d ∧ p x = true
  · rw [if_pos ⟨by omega, by omega, h.2⟩, if_pos h]
  · rw [if_neg (fun h' => h ⟨by omega, h'.2.2⟩), if_neg h]
theorem setF_get (d : Nat) (p : Nat → Bool) : (setF d p (d : Int)).getD (.bool false) = .bool (p d) := by
  rw [setF_nat]
  cases h : p d
  · rw [if_neg (by simp)]; rfl
  · rw [if_pos ⟨Nat.le_refl _, rfl⟩]; rfl
theorem setF_neg {d : Nat} {p : Nat → Bool} {s : Int} (h : s < 0) : setF d p s = none := by unfold setF; rw [if_neg (by omega)]
theorem setF_some {d : Nat} {p : Nat → Bool} {s : Int} {v : Value} (h : setF d p s = some v) : ∃ x : Nat, s = (x : Int) ∧ x ≤ d ∧ p x = true ∧ v = .bool true := by
  unfold setF at h
  split at h
  · rename_i h1
    injection h with h
    exact ⟨s.toNat, by omega, by omega, h1.2.2, h.symm⟩
  · cases h
theorem setF_congr {d : Nat} {p q : Nat → Bool} (h : ∀ x, x ≤ d → p x = q x) (s : Int) : setF d p s = setF d q s := by
  rcases Int.lt_or_le s 0 with hs | hs
  · rw [setF_neg hs, setF_neg hs]
  · obtain ⟨x, rfl⟩ := Int.eq_ofNat_of_zero_le hs
    rw [setF_nat, setF_nat]
    by_cases hx : x ≤ d
    · rw [h x hx]
    · rw [if_neg (fun h' => hx h'.1), if_neg (fun h' => hx h'.1)]
theorem setF_put {d : Nat} {p : Nat → Bool} {x : Nat} (hx : x ≤ d) (s : Int) : putF (setF d p) (x : Int) (.bool true) s = setF d (fun z => p z || decide (z = x)) s := by
  unfold putF
  rcases Int.lt_or_le s 0 with hs | hs
  · rw [if_neg (by omega), setF_neg hs, setF_neg hs]
  · obtain ⟨z, rfl⟩ := Int.eq_ofNat_of_zero_le hs
    rw [setF_nat, setF_nat]
    by_cases e : z = x
    · subst e; rw [if_pos rfl, if_pos ⟨hx, by simp⟩]
    · rw [if_neg (by omega)]
      simp [e]
theorem setF_none {d : Nat} (s : Int) : (fun _ => none : Int → Option Value) s = setF d (fun _ => false) s := by
  unfold setF; simp
theorem setF_in {d : Nat} {p : Nat → Bool} {s : Int} (h : setF d p s ≠ none) : 0 ≤ s ∧ s < ((d + 1 : Nat) : Int) := by
  cases hf : setF d p s with
  | none => exact absurd hf h
  | some v =>
    obtain ⟨x, rfl, hx, _⟩ := setF_some hf
    omega
theorem start_set (d : Nat) (t : Nat → Int) (z : Int) : putF (fun _ => none) 0 (.bool true) z = setF d (mayS d t 0) z := by
  have e : putF (fun _ => none) 0 (.bool true) z = putF (setF d (fun _ => false)) ((0 : Nat) : Int) (.bool true) z := by
    unfold putF
    by_cases h : z = 0
    · subst h; simp
    · rw [if_neg h, if_neg (by simpa using h)]; exact setF_none z
  rw [e, setF_put (Nat.zero_le _)]
  exact setF_congr (fun x _ => by simp [mayS]) z
theorem MF.tightSet {d : Nat} {w : World} {b n : Nat} {p : Nat → Bool} (h : MF Try.prog 3 w b n (setF d p)) : MF Try.prog 3 w b (d + 1) (setF d p) := h.tight intKey Try.underlying3 fun s _ hs => setF_in hs
/-- What the next block may weigh, some weights of this one still to come. -/
def nextP (d : Nat) (t : Nat → Int) (j : Nat) (left : Int → Bool) (x : Nat) : Bool := decide (∃ v : Nat, v ≤ d ∧ (mayS d t j v = true ∧ left (v : Int) = false) ∧ t (v + x) < (v : Int))
theorem nextP_start {d : Nat} {t : Nat → Int} {j x : Nat} : nextP d t j (fun s => (setF d (mayS d t j) s).isSome) x = false := by
  unfold nextP
  rw [decide_eq_false_iff_not]
  rintro ⟨v, hv, ⟨h1, h2⟩, _⟩
  dsimp only at h2
  rw [setF_nat, if_pos ⟨hv, h1⟩] at h2
  cases h2
theorem nextP_end {d : Nat} {t : Nat → Int} {j : Nat} {left : Int → Bool} (h : ∀ v : Nat, v ≤ d → left (v : Int) = false) (x : Nat) : nextP d t j left x = mayS d t (j + 1) x := by
  unfold nextP
  rw [mayS, decide_eq_decide]
  constructor
  · rintro ⟨v, hv, ⟨h1, _⟩, h3⟩; exact ⟨v, hv, h1, h3⟩
  · rintro ⟨v, hv, h1, h3⟩; exact ⟨v, hv, ⟨h1, h v hv⟩, h3⟩
theorem nextP_step {d : Nat} {t : Nat → Int} {j : Nat} {left : Int → Bool} {v : Nat} (hv : v ≤ d) (hm : mayS d t j v = true) {x : Nat} (hx : x ≤ d) :
    (nextP d t j left x || (decide (x < d + 1) && decide (t (v + x) < (v : Int)))) = nextP d t j (fun z => left z && !(z == (v : Int))) x := by
  rw [Bool.eq_iff_iff]
  unfold nextP
  rw [Bool.or_eq_true, Bool.and_eq_true, decide_eq_true_eq, decide_eq_true_eq, decide_eq_true_eq, decide_eq_true_eq]
  constructor
  · rintro (⟨u, h1, ⟨h2, h3⟩, h4⟩ | ⟨_, h2⟩)
    · exact ⟨u, h1, ⟨h2, by dsimp only; rw [h3]; rfl⟩, h4⟩
    · exact ⟨v, hv, ⟨hm, by simp⟩, h2⟩
  · rintro ⟨u, h1, ⟨h2, h3⟩, h4⟩
    by_cases e : u = v
    · subst e; exact .inr ⟨by omega, h4⟩
    · refine .inl ⟨u, h1, ⟨h2, ?_⟩, h4⟩
      have : ((u : Int) == (v : Int)) = false := by rw [beq_eq_false_iff_ne]; omega
      dsimp only at h3
      rw [this] at h3
      simpa using h3
theorem wf_small {n : Nat} (h : n ≤ 1000) : (Lit.int .i64 (n : Int)).wf = true := WalkArith.wf_i64 (by omega)
/-- A code is complete. -/
def StV.cmp (s : StV) : Bool := !mayS s.b.toNat s.th (s.u.toNat - 2) s.b.toNat
def cmpSt (s : StV) : Bool × Int := if s.ok = true then (s.cmp, 0) else (false, 70)

set_option maxHeartbeats 8000000 in
set_option maxRecDepth 100000 in
theorem complete_good (s : StV) (w : World) (h : StOK w s) (hok : s.ok = true) :
    Calls Try.prog 19 #[.agg s.cs.toArray] w fun e w' => e = .returned (.tuple #[.bool s.cmp, .int .i64 0]) ∧ Below w.heap.size w w' := by
  obtain ⟨⟨q1, q2, q3, q4⟩, hl⟩ := StV.parts hok
  obtain ⟨d, hd⟩ : ∃ d : Nat, s.b = (d : Int) := ⟨s.b.toNat, by omega⟩
  obtain ⟨u, hu⟩ : ∃ u : Nat, s.u = ((u + 2 : Nat) : Int) := ⟨s.u.toNat - 2, by omega⟩
  have hcmp : s.cmp = !mayS d s.th u d := by unfold StV.cmp; rw [hd, hu, Int.toNat_natCast, Int.toNat_natCast, Nat.add_sub_cancel]
  rw [hcmp]
  have HCK : Hid (∀ W, Below w.heap.size w W → Calls Try.prog 45 #[.agg s.cs.toArray] W fun e w' => e = .returned (.int .i64 0) ∧ Below W.heap.size W w') := fun W hW => by
    have := CheckSteps_any s W (h.below hW)
    rwa [hok, show ckSt true = 0 from rfl] at this
  have HTO : Hid (∀ K : Nat, (K : Int) ≤ 2 * (d : Int) → ∀ W, Below w.heap.size w W → Calls Try.prog 46 #[.agg s.cs.toArray, .int .i64 (K : Int)] W fun e w' => e = .returned (.int .i64 (s.th K)) ∧ Below W.heap.size W w') := fun K hk W hW => threshold_any s K W (h.below hW) hok (by omega)
  have hks := h.k16
  obtain ⟨W0, hW0⟩ : ∃ W : World, W = w.alloc (.cells s.cs.toArray 51) := ⟨_, rfl⟩
  have b0 : Hid (Below w.heap.size w W0) := by unfold Hid; rw [hW0]; exact alloc_below _ _
  have x0 : Hid (Blk W0 w.heap.size 51 s.cs.toArray) := by unfold Hid; rw [hW0]; exact Blk.new w _ _
  have HW0 := Lib.hid hW0
  have HIN := Lib.hid (StV.info (s := s) hks)
  have HCL : Hid (∀ W, Below W0.heap.size W0 W → W.cell? ⟨w.heap.size, 0, none⟩ = some (.int .i64 ((u + 2 : Nat) : Int)) ∧ W.cell? ⟨w.heap.size, 1, none⟩ = some (.int .i64 (d : Int))) := fun W hW => by
    obtain ⟨g0, g1, _, _⟩ := StV.cells hks (x0.out.below' hW)
    rw [hu] at g0
    rw [hd] at g1
    exact ⟨g0, g1⟩
  have HTB : Hid (∀ k, -1 ≤ s.th k ∧ s.th k ≤ k) := fun k => ⟨thS_ge _ _ _ _, thS_le _ _ _ _⟩
  generalize s.th = t at *
  generalize s.cs.toArray = cs at *
  have hd1 : 1 ≤ d := by omega
  have hd2 : d ≤ 64 := by omega
  have hu2 : u ≤ 14 := by omega
  have hdi : (d : Int) ≤ 64 := by omega
  have hui : (u : Int) ≤ 14 := by omega
  have hmm := @run_makeMap Try.prog
  clear hW0 hcmp h hok hl hks q1 q2 q3 q4 hd hu
  go_enter Try.func19, Try.ntmps19
  go_wp2_with (first
    | (rw [← HW0.out])
    | (refine wpList_load_row rfl 51 (.tmp 1) rfl (w.heap.size) rfl 51 cs (0, 0) _ x0.out Try.underlying51 rfl HIN.out ?_)
    | (rw [← HW2.out])
    | (go_at_call 45; (with_reducible refine (HCK.out _ b0.out).mono ?_); rintro e w1 ⟨rfl, hb⟩; obtain ⟨W2, hW2⟩ : ∃ W, W = w1.alloc (.cells Try.zeroCells87 87) := ⟨_, rfl⟩; have D1 := Lib.hid hb; have D2 : Hid (Below W0.heap.size W0 W2) := (by unfold Hid; rw [hW2]; exact bel_on hb (alloc_bel _ _)); have B2 : Hid (Blk W2 w1.heap.size 87 (mostC t 0).toArray) := (by unfold Hid; rw [hW2, mostC_zero t]; exact Blk.new _ _ _); have hz2 : Hid (w1.heap.size < W2.heap.size ∧ W0.heap.size ≤ w1.heap.size) := (by unfold Hid; rw [hW2]; exact ⟨by simp, hb.size⟩); obtain ⟨c0, c1⟩ := HCL.out _ D2.out; have HW2 := Lib.hid hW2; clear hb hW2))
  clear c0 c1
  go_loopw [20] (fun vk wr => ∃ k : Nat, k ≤ 2 * d + 1 ∧ vk = .int .i64 (k : Int) ∧ Hid (Blk wr w1.heap.size 87 (mostC t k).toArray) ∧ Below w1.heap.size W2 wr) (fun vk _ => 2 * d + 1 - (intOf vk).toNat)
  case atStart => exact ⟨0, by omega, rfl, B2.out, Below.refl _ _⟩
  case round =>
    obtain ⟨k, hk, rfl, HB, hbel⟩ := hrel
    have hbl : Hid (Below W0.heap.size W0 wr) := D2.out.trans (hbel.mono hz2.out.2)
    obtain ⟨c0, c1⟩ := HCL.out _ hbl.out
    have X1 := Lib.hid (x0.out.below' hbl.out)
    by_cases hlt : k < 2 * d + 1
    · have hki : (k : Int) < 2 * (d : Int) + 1 := by omega
      have hk129 : (k : Int) < 129 := by omega
      have hk0 : (0 : Int) ≤ k := by omega
      have HT2 := Lib.hid (HTO.out k (by omega))
      have HS := Lib.hid (mostC_put t (k := k) (by omega))
      have HA := Lib.hid (mostC_at (t := t) (k := k) (by omega))
      go_wp2_with (first
        | (refine wpList_load_row rfl 51 (.tmp 1) rfl (w.heap.size) rfl 51 cs (0, 0) _ X1.out Try.underlying51 rfl HIN.out ?_)
        | (go_at_call 46; (with_reducible refine (HT2.out _ (bel_on b0.out hbl.out)).mono ?_); rintro e w3 ⟨rfl, hb⟩; have B3 := Lib.hid (HB.out.below' hb); have D3 := Lib.hid (hbel.trans (hb.mono (Nat.le_trans (Nat.le_of_lt hz2.out.1) hbel.size))); have hc3 := (B3.out.cell k).trans HA.out; have hf3 := B3.out.frozen k; clear hb))
      have hB4 := B3.out.set_ k (.int .i64 (t k))
      rw [HS.out] at hB4
      have D4 := D3.out.setCell (p := ⟨w1.heap.size, k, none⟩) (Nat.le_refl _) (.int .i64 (t k))
      go_roundw
      case rel => exact ⟨k + 1, by omega, by go_num, hB4, D4⟩
      case measure => simp [intOf]; omega
    · obtain rfl : k = 2 * d + 1 := by omega
      have hx : ¬ (((2 * d + 1 : Nat) : Int) < 2 * (d : Int) + 1) := by omega
      have hx2 : ¬ (2 * (d : Int) + 1 < 2 * (d : Int) + 1) := by omega
      have HM : Hid (∀ W, Below wr.heap.size wr W → ∀ i, i ≤ 2 * d → W.cell? ⟨w1.heap.size, i, none⟩ = some (.int .i64 (t i))) := fun W hW i hi => ((HB.out.below' hW).cell i).trans (mostC_get (by omega) (by omega))
      obtain ⟨wd, hwd⟩ : ∃ wd : World, wd = wr := ⟨_, rfl⟩
      rw [← hwd] at HM hbl X1 c0 c1 ⊢
      have HCD : Hid (∀ W, Below wd.heap.size wd W → W.cell? ⟨w.heap.size, 0, none⟩ = some (.int .i64 ((u + 2 : Nat) : Int)) ∧ W.cell? ⟨w.heap.size, 1, none⟩ = some (.int .i64 (d : Int))) := fun W hW => HCL.out _ (bel_on hbl.out hW)
      have HBD := Lib.hid (bel_on b0.out hbl.out)
      have e2 : IntKind.i64.wrap (((u + 2 : Nat) : Int) - 2) = (u : Int) := by rw [IntKind.wrap_i64]; omega
      clear HB hbel hwd
      have c0' : (wd.alloc (.map #[] 0)).cell? ⟨w.heap.size, 0, none⟩ = some (.int .i64 ((u + 2 : Nat) : Int)) := (HCD.out _ (alloc_bel _ _)).1
      go_wp2_with (first
        | (refine wpList_insert_mf _ rfl (.tmp 29) _ _ 88 rfl 3 4 intKey Try.underlying3 Try.underlying88 wd.heap.size 0 (fun _ => none) rfl (MF.made _ _ _) (by unfold maxLen; omega) 0 (.bool true) rfl rfl (by decide) ?_; intro w5 hm5 hg5; have D5 : Hid (Below wd.heap.size wd w5) := (alloc_bel wd (.map #[] 0)).grown hg5 (by simp) (fun j hj => by cases hj; exact Nat.le_refl _); have M5 : Hid (MF Try.prog 3 w5 wd.heap.size (d + 1) (setF d (mayS d t 0))) := (MF.tightSet (hm5.congr fun z _ => start_set d t z)); obtain ⟨c5, c5'⟩ := HCD.out _ D5.out; clear hm5 hg5))
      clear c0 c0' c1 c5 c5' X1
      go_loopw [7, 34] (fun vm vj wr => ∃ (j bm : Nat), j ≤ u ∧ vj = .int .i64 (j : Int) ∧ vm = .map (some bm) ∧ Hid (wd.heap.size ≤ bm) ∧ Hid (MF Try.prog 3 wr bm (d + 1) (setF d (mayS d t j))) ∧ Below wd.heap.size wd wr) (fun _ vj _ => u - (intOf vj).toNat)
      case atStart => exact ⟨0, _, by omega, rfl, rfl, Nat.le_refl _, M5.out, D5.out⟩
      case round =>
        obtain ⟨j, bm, hj, rfl, rfl, HBM, HMF, hbel⟩ := hrel
        by_cases hlt : j < u
        · have hji : (j : Int) < u := by omega
          obtain ⟨b2, hb2⟩ : ∃ b2, wr.heap.size = b2 := ⟨_, rfl⟩
          obtain ⟨wm, hwm⟩ : ∃ wm, wm = wr.alloc (.map #[] 0) := ⟨_, rfl⟩
          have DM : Hid (Below wd.heap.size wd wm) := by unfold Hid; rw [hwm]; exact bel_on hbel (alloc_bel _ _)
          have MM : Hid (MF Try.prog 3 wm bm (d + 1) (setF d (mayS d t j))) := by unfold Hid; rw [hwm]; exact HMF.out.below (alloc_bel _ _)
          have MN : Hid (MF Try.prog 3 wm b2 0 (fun _ => none)) := by unfold Hid; rw [hwm, ← hb2]; exact MF.made _ _ _
          have HNE : Hid (bm ≠ b2 ∧ wd.heap.size ≤ b2 ∧ b2 < wm.heap.size) := by
            have := HMF.out.lt
            have h3 := hbel.size
            exact ⟨by omega, by omega, by rw [hwm]; simp; omega⟩
          have hmk : (Instr.makeMap 88 none).run Try.prog wr = .ok (.map (some b2)) wm := by rw [hwm, ← hb2]; exact hmm _ _
          clear hwm hb2 hmm
          go_wp2_with (first
            | (at_range; refine wpList_range_mf _ rfl _ 88 rfl 3 4 intKey Try.underlying88 bm (d + 1) _ rfl MM.out ?_; intro w6 cnt6 hr6 hg6 hs6; have R6 := Lib.hid hr6; have N6 := Lib.hid (MN.out.kept hg6 (by simp)); have D6 : Hid (Below wd.heap.size wd w6) := DM.out.grown hg6 DM.out.size (fun j hj => by cases hj); clear hr6 hg6 hs6))
          try go_frame
          go_loopw [9] (fun _ wr => ∃ (left : Int → Bool) (cnt : Nat), Hid (MFR Try.prog 3 wr bm wm.heap.size (d + 1) (setF d (mayS d t j)) left cnt) ∧ Hid (MF Try.prog 3 wr b2 (d + 1) (setF d (nextP d t j left))) ∧ Below wd.heap.size wd wr) (fun _ w' => w'.rangeLeft bm wm.heap.size)
          case atStart => exact ⟨_, cnt6, R6.out, (N6.out.congr fun z _ => by rw [setF_congr (q := fun _ => false) (fun x _ => nextP_start) z]; exact setF_none z).tightSet, D6.out⟩
          case round =>
            obtain ⟨left, cnt, HR, HN, hbel3⟩ := hrel
            go_wp2_with (first
              | (at_next; refine wpList_next_mf _ rfl _ rfl 3 intKey Try.underlying3 bm wm.heap.size (d + 1) _ _ _ rfl HR.out ?_ ?_))
            · intro hl0
              have N9 : Hid (MF Try.prog 3 wr b2 (d + 1) (setF d (mayS d t (j + 1)))) := HN.out.congr fun z _ => setF_congr (fun x _ => nextP_end (fun v hv => hl0 _ (wf_small (by omega))) x) z
              clear hl0
              go_wp2_with fail
              go_roundw
              case rel => exact ⟨j + 1, b2, by omega, by go_num, rfl, HNE.out.2.1, N9.out, hbel3⟩
              case measure => simp [intOf]; omega
            · intro sx vx w7 cnt7 hws hls hfs hr7 hlt7 hg7 hs7 hen
              obtain ⟨x, rfl, hxd, hmx, rfl⟩ := setF_some hfs
              have HMX := Lib.hid hmx
              have HLT := Lib.hid hlt7
              have hxi : (x : Int) ≤ d := by omega
              have hx0 : (0 : Int) ≤ x := by omega
              have R7 := Lib.hid hr7
              have hrl : Hid (wm.heap.size ≠ b2 ∧ wd.heap.size ≤ wm.heap.size) := ⟨by have := HNE.out; omega, DM.out.size⟩
              have N7 := Lib.hid (HN.out.kept hg7 (by simpa using fun e => hrl.out.1 e.symm))
              have D7 : Hid (Below wd.heap.size wd w7) := hbel3.grown hg7 hbel3.size (fun j hj => by cases hj; exact hrl.out.2)
              obtain ⟨c0, c1⟩ := HCD.out _ D7.out
              clear hws hls hfs hr7 hlt7 hg7 hs7 hmx
              go_wp2_with fail
              clear c0 c1
              go_loopw [46] (fun vi wr => ∃ i : Nat, i ≤ d + 1 ∧ vi = .int .i64 (i : Int) ∧ Hid (MFR Try.prog 3 wr bm wm.heap.size (d + 1) (setF d (mayS d t j)) (fun z => left z && !(z == (x : Int))) cnt7) ∧ Hid (MF Try.prog 3 wr b2 (d + 1) (setF d (fun y => nextP d t j left y || (decide (y < i) && decide (t (x + y) < (x : Int)))))) ∧ Below wd.heap.size wd wr) (fun vi _ => d + 1 - (intOf vi).toNat)
              case atStart => exact ⟨0, by omega, rfl, R7.out, N7.out.congr fun z _ => setF_congr (fun y _ => by simp) z, D7.out⟩
              case round =>
                obtain ⟨i, hi, rfl, HR4, HN4, hbel4⟩ := hrel
                by_cases hlt4 : i < d + 1
                · have hii : (i : Int) < (d : Int) + 1 := by omega
                  have hi0 : (0 : Int) ≤ i := by omega
                  obtain ⟨y, hy⟩ : ∃ y, x + i = y := ⟨_, rfl⟩
                  have hc := HM.out _ hbel4 (x + i) (by omega)
                  rw [hy] at hc
                  have e3 : IntKind.i64.wrap ((x : Int) + (i : Int)) = (y : Int) := by rw [IntKind.wrap_i64]; omega
                  have e3' : (x : Int) + (i : Int) = (y : Int) := by omega
                  have hy1 : (y : Int) < 129 := by omega
                  have hy0 : (0 : Int) ≤ y := by omega
                  have hyt : t (x + i) = t y := by rw [hy]
                  obtain ⟨ty, hty⟩ : ∃ ty, t y = ty := ⟨_, rfl⟩
                  rw [hty] at hc hyt
                  have HYT := Lib.hid hyt
                  clear hyt hty hy
                  by_cases ht : ty < (x : Int)
                  · have N5 : Hid (∀ w8, MF Try.prog 3 w8 b2 (d + 1 + 1) (putF (setF d (fun y => nextP d t j left y || (decide (y < i) && decide (t (x + y) < (x : Int))))) (i : Int) (.bool true)) → MF Try.prog 3 w8 b2 (d + 1) (setF d (fun y => nextP d t j left y || (decide (y < i + 1) && decide (t (x + y) < (x : Int)))))) := fun w8 hm => (hm.congr fun z _ => by
                      rw [setF_put (by omega)]
                      refine setF_congr (fun y hyd => ?_) z
                      by_cases e : y = i
                      · subst e; rw [HYT.out]; simp [ht]
                      · have : (y < i) ↔ (y < i + 1) := by omega
                        simp [e, this]).tightSet
                    go_wp2_with (first
                      | (at_mapUpdate; refine wpList_update_mf _ rfl _ _ _ 88 rfl 3 4 intKey Try.underlying3 Try.underlying88 b2 (d + 1) _ rfl HN4.out (by unfold maxLen; omega) (i : Int) (.bool true) rfl rfl (wf_small (by omega)) ?_; intro w8 hm8 hg8; have N8 := Lib.hid (N5.out _ hm8); have R8 := Lib.hid (HR4.out.kept hg8 (by simpa using HNE.out.1) (by simpa using hrl.out.1)); have D8 : Hid (Below wd.heap.size wd w8) := hbel4.grown hg8 hbel4.size (fun j hj => by cases hj; exact HNE.out.2.1); clear hm8 hg8; go_frame))
                    go_roundw
                    case rel => exact ⟨i + 1, by omega, by go_num, R8.out, N8.out, D8.out⟩
                    case measure => simp [intOf]; omega
                  · have N8 : Hid (MF Try.prog 3 wr b2 (d + 1) (setF d (fun y => nextP d t j left y || (decide (y < i + 1) && decide (t (x + y) < (x : Int)))))) := HN4.out.congr fun z _ => setF_congr (fun y hyd => by
                      by_cases e : y = i
                      · subst e; rw [HYT.out]; simp [ht]
                      · have : (y < i) ↔ (y < i + 1) := by omega
                        simp [this]) z
                    go_wp2_with fail
                    go_roundw
                    case rel => exact ⟨i + 1, by omega, by go_num, HR4.out, N8.out, hbel4⟩
                    case measure => simp [intOf]; omega
                · obtain rfl : i = d + 1 := by omega
                  have hx4 : ¬ (((d + 1 : Nat) : Int) < (d : Int) + 1) := by omega
                  have hx5 : ¬ ((d : Int) + 1 < (d : Int) + 1) := by omega
                  have N9 : Hid (MF Try.prog 3 wr b2 (d + 1) (setF d (nextP d t j (fun z => left z && !(z == (x : Int)))))) := HN4.out.congr fun z _ => setF_congr (fun y hyd => nextP_step hxd HMX.out hyd) z
                  go_wp2_with fail
                  go_roundw
                  case rel => exact ⟨_, cnt7, HR4.out, N9.out, hbel4⟩
                  case measure => rw [HR4.out.left_eq, HR.out.left_eq]; exact HLT.out
        · obtain rfl : j = u := by omega
          have hxj : ¬ ((j : Int) < j) := by omega
          obtain ⟨c0, c1⟩ := HCD.out _ hbel
          go_wp2_with (first
            | (at_lookup; refine wpList_lookup_mf _ rfl _ _ 88 rfl 3 4 intKey Try.underlying3 Try.underlying88 (.bool false) (zeroBool _) bm (d + 1) _ rfl HMF.out (d : Int) rfl (wf_small (by omega)) ?_; rw [setF_get]))
          go_ret2
          exact ⟨rfl, bel_on HBD.out hbel⟩
end Go.Proofs.Ytenpkmgbaajeeaa

/- isWord and isCopy of the program; whether some row of a list fits a closure. -/
namespace Go.Proofs.Ytenpkmgbaajeeaa
open Go.RowKit
set_option linter.unusedVariables false

theorem beq4_word (l : List UInt8) (n : Nat) : ([(cn l 0 : Int), (cn l 1 : Int), (cn l 2 : Int), (cn l 3 : Int)] == [(cn l 0 : Int), (n : Int) - (cn l 0 : Int), 0, 0]) = wordB l n := by
  rw [Bool.eq_iff_iff, word_cn]
  simp
  omega
set_option maxHeartbeats 1000000 in
theorem isWord_any (A : Option Addr) (c : Nat) (l : List UInt8) (m : Nat) (w : World) {n : Nat} (hn : l.length = n) (h : BR w A c l) (hm : m ≤ 140737488351232) :
    Calls Try.prog 23 #[.slice A n c, .int .i64 (m : Int)] w fun e w' => e = .returned (.bool (wordB l m)) ∧ Below w.heap.size w w' := by
  have HN := Lib.hid hn
  have H := Lib.hid h
  have hlen : (n : Int) ≤ 140737488351232 := by have := h.len; omega
  have hm2 : (m : Int) ≤ 140737488351232 := by omega
  have hc0 : (cn l 0 : Int) ≤ n := by have := cn_le l 0; omega
  have HS := Lib.hid (beq4_word l m)
  have HC : Hid (cntV l = #[.int .i64 (cn l 0), .int .i64 (cn l 1), .int .i64 (cn l 2), .int .i64 (cn l 3)]) := rfl
  have heq := fun W => run_eql_4 W (cn l 0) (cn l 1) (cn l 2) (cn l 3) (cn l 0) ((m : Int) - cn l 0) 0 0
  clear hn h
  go_enter Try.func23, Try.ntmps23
  go_wp2_with (go_at_call 51; refine (counted_any A c l _ HN.out H.out).mono ?_; rintro e w' ⟨rfl, rfl⟩; rw [HC.out])
  go_ret
  exact ⟨ret_bool' (by have := HS.out; simpa using this), ((Below.refl _ _).alloc (Nat.le_refl _) _).alloc (by simp) _⟩
set_option maxHeartbeats 1000000 in
theorem isCopy_any (A : Option Addr) (c : Nat) (l : List UInt8) (m : Nat) (w : World) {n : Nat} (hn : l.length = n) (h : BR w A c l) (hm : m ≤ 140737488351232) :
    Calls Try.prog 24 #[.slice A n c, .int .i64 (m : Int)] w fun e w' => e = .returned (.bool (copyB l m)) ∧ Below w.heap.size w w' := by
  have hlen : (n : Int) ≤ 140737488351232 := by have := h.len; omega
  have HN := Lib.hid hn
  have H := Lib.hid h
  have HC : Hid (cntV l = #[.int .i64 (cn l 0), .int .i64 (cn l 1), .int .i64 (cn l 2), .int .i64 (cn l 3)]) := rfl
  have hcp := copy_cn l m
  have hix : ∀ W, (Instr.index 92 (.agg #[.int .i64 (cn l 0), .int .i64 (cn l 1), .int .i64 (cn l 2), .int .i64 (cn l 3)]) (.int .i64 3)).run Try.prog W = .ok (.int .i64 (cn l 3)) W := fun _ => by kernel_rfl
  by_cases e : n = m
  · have t1 : ((n : Int) == (m : Int)) = true := by simp; omega
    have t2 : (n == m) = true := by simp; omega
    have HS : Hid (((cn l 3 : Int) == 0) = copyB l m) := by unfold Hid; rw [Bool.eq_iff_iff, hcp]; simp; omega
    clear hn h e hcp
    go_enter Try.func24, Try.ntmps24
    go_wp2_with (go_at_call 51; refine (counted_any A c l _ HN.out H.out).mono ?_; rintro e w' ⟨rfl, rfl⟩; rw [HC.out])
    go_ret
    exact ⟨ret_bool' (by have := HS.out; simpa using this), (Below.refl _ _).alloc (Nat.le_refl _) _⟩
  · have HS : Hid (copyB l m = false) := by unfold Hid copyB; rw [hn]; simp [e]
    have t1 : ((n : Int) == (m : Int)) = false := by simp; omega
    have t2 : (n == m) = false := by simp; omega
    clear hn h e hcp
    go_enter Try.func24, Try.ntmps24
    go_wp2_with fail
    go_ret
    exact ⟨ret_bool' HS.out.symm, Below.refl _ _⟩

/-- The first index for which p holds, or -1. -/
def idxI (n : Nat) (p : Nat → Bool) : Int := match (List.range n).find? p with | some i => i | none => -1
def anyI (n : Nat) (p : Nat → Bool) : Bool := (List.range n).any p
theorem idxI_some {n k : Nat} {p : Nat → Bool} (hk : k < n) (hp : p k = true) (hlt : ∀ j, j < k → p j = false) : idxI n p = k := by
  have h : (List.range n).find? p = some k := by
    rw [List.find?_range_eq_some]
    exact ⟨by simpa using hp, by simpa using hk, fun j hj => by simp [hlt j hj]⟩
  unfold idxI
  rw [h]
theorem idxI_none {n : Nat} {p : Nat → Bool} (h : ∀ j, j < n → p j = false) : idxI n p = -1 := by
  have h : (List.range n).find? p = none := by
    rw [List.find?_eq_none]
    intro x hx
    rw [h x (List.mem_range.1 hx)]
    simp
  unfold idxI
  rw [h]
theorem idxI_any (n : Nat) (p : Nat → Bool) : decide (0 ≤ idxI n p) = anyI n p := by
  unfold idxI anyI
  cases h : (List.range n).find? p with
  | none =>
    rw [List.find?_eq_none] at h
    rw [Bool.eq_iff_iff]
    simp only [decide_eq_true_eq, List.any_eq_true]
    exact ⟨fun h => by omega, fun ⟨x, hx, hp⟩ => absurd hp (h x hx)⟩
  | some i =>
    have h1 := List.mem_of_find?_eq_some h
    have h2 := List.find?_some h
    rw [Bool.eq_iff_iff]
    simp only [decide_eq_true_eq, List.any_eq_true]
    exact ⟨fun _ => ⟨i, h1, h2⟩, fun _ => by omega⟩
theorem anyI_iff {n : Nat} {p : Nat → Bool} : anyI n p = true ↔ ∃ i, i < n ∧ p i = true := by simp [anyI]

set_option maxHeartbeats 1000000 in
set_option maxRecDepth 100000 in
theorem IndexRows_any (A : Option Addr) (c : Nat) (rs : List BRow) (F : FuncId) (cap : Array Value) (p : Nat → Bool) (w : World) (hE : ∀ args W, (callFunc F args).run Try.prog W = .ok (.enter F args) W) {n : Nat} (hn : rs.length = n) (h : Rd w 1 A c rs.length (rs.map BRow.v))
    (hf : ∀ i r W, rs[i]? = some r → Below w.heap.size w W → Calls Try.prog F (#[r.v] ++ cap) W fun e W' => e = .returned (.bool (p i)) ∧ Below W.heap.size W W') :
    Calls Try.prog 50 #[.slice A n c, .func (.func F) #[] cap] w fun e w' => e = .returned (.int .i64 (idxI n p)) ∧ Below w.heap.size w w' := by
  have hlen : (n : Int) ≤ 140737488351232 := by have := h.len; omega
  have HN := Lib.hid hn
  have H := Lib.hid h
  have HF := Lib.hid hf
  clear hn h hf
  go_enter Try.func50, Try.ntmps50
  go_wp2_with fail
  go_loopw [8] (fun vk wr => ∃ k : Nat, k ≤ n ∧ vk = .int .i64 k ∧ Hid (∀ j, j < k → p j = false) ∧ Below w.heap.size w wr) (fun vk _ => n - (intOf vk).toNat)
  case atStart => exact ⟨0, by omega, rfl, fun j hj => absurd hj (by omega), Below.refl _ _⟩
  case round =>
    obtain ⟨k, hk, rfl, HK, hbel⟩ := hrel
    by_cases hkn : k < n
    · obtain ⟨b, off, rfl, hb, v, hv, hc0⟩ := Rd.at1 H.out (i := k) (by have := HN.out; omega)
      have hc := (hbel.cell (p := ⟨b, off + k, none⟩) hb).trans hc0
      obtain ⟨r, hr, hrv⟩ : ∃ r, rs[k]? = some r ∧ r.v = v := by simpa [List.getElem?_map] using hv
      have HR := Lib.hid hr
      rw [← hrv] at hc
      have HC := HF.out k r wr hr hbel
      clear hc0 hv hr hrv
      rcases hp : p k with _ | _
      · have HK2 : Hid (∀ j, j < k + 1 → p j = false) := fun j hj => by
          rcases Nat.lt_or_ge j k with h' | h'
          · exact HK.out j h'
          · rw [show j = k from by omega]; exact hp
        rw [hp] at HC
        have HC2 := Lib.hid HC
        clear HC hp
        go_wp2_with fail
        refine HC2.out.mono ?_
        rintro e w1 ⟨rfl, hb1⟩
        go_wp2_with fail
        go_roundw
        case rel => exact ⟨k + 1, by omega, by go_num, HK2, hbel.trans (hb1.mono hbel.size)⟩
        case measure => simp [intOf]; omega
      · have HI : Hid (idxI n p = k) := idxI_some hkn hp HK.out
        rw [hp] at HC
        have HC2 := Lib.hid HC
        clear HC hp
        go_wp2_with fail
        refine HC2.out.mono ?_
        rintro e w1 ⟨rfl, hb1⟩
        go_wp2_with fail
        go_ret
        exact ⟨ret_int' HI.out.symm, hbel.trans (hb1.mono hbel.size)⟩
    · have HI : Hid (idxI n p = -1) := idxI_none fun j hj => HK.out j (by omega)
      go_wp2_with fail
      go_ret
      exact ⟨ret_int' HI.out.symm, hbel⟩
set_option maxHeartbeats 400000 in
theorem ContainsRows_any (A : Option Addr) (c : Nat) (rs : List BRow) (F : FuncId) (cap : Array Value) (p : Nat → Bool) (w : World) (hE : ∀ args W, (callFunc F args).run Try.prog W = .ok (.enter F args) W) {n : Nat} (hn : rs.length = n) (h : Rd w 1 A c rs.length (rs.map BRow.v))
    (hf : ∀ i r W, rs[i]? = some r → Below w.heap.size w W → Calls Try.prog F (#[r.v] ++ cap) W fun e W' => e = .returned (.bool (p i)) ∧ Below W.heap.size W W') :
    Calls Try.prog 21 #[.slice A n c, .func (.func F) #[] cap] w fun e w' => e = .returned (.bool (anyI n p)) ∧ Below w.heap.size w w' := by
  have HI := Lib.hid (IndexRows_any A c rs F cap p w hE hn h hf)
  have HA := Lib.hid (idxI_any n p)
  clear hn h hf hE
  go_enter Try.func21, Try.ntmps21
  go_wp2_with (go_at_call 50; refine HI.out.mono ?_; rintro e w1 ⟨rfl, hb1⟩)
  go_ret
  exact ⟨ret_bool' HA.out, hb1⟩
end Go.Proofs.Ytenpkmgbaajeeaa

/- Codes of scores in plain words. -/
namespace Go.Proofs.Ytenpkmgbaajeeaa
open Go.RowKit
set_option linter.unusedVariables false

/-- The integer with an index. -/
def it (l : List Int) (i : Nat) : Int := l.getD i 0
theorem it_in {l : List Int} {i : Nat} (h : i < l.length) : it l i = l[i] := by unfold it; simp [List.getD, List.getElem?_eq_getElem h]
theorem IR.at_ {w : World} {A : Option Addr} {c : Nat} {l : List Int} (h : IR w A c l) {i : Nat} (hi : i < l.length) :
    ∃ b off, A = some ⟨b, off, none⟩ ∧ b < w.heap.size ∧ w.cell? ⟨b, off + i, none⟩ = some (.int .i64 (it l i)) := by
  obtain ⟨b, off, e, hb, v, hv, hc⟩ := Rd.at1 h.1 hi
  refine ⟨b, off, e, hb, ?_⟩
  rw [hc, ← hv, it_in hi]
  simp [cellsI, List.getElem?_eq_getElem hi]
theorem IR.below {w w' : World} {A : Option Addr} {c : Nat} {l : List Int} (h : IR w A c l) (hb : Below w.heap.size w w') : IR w' A c l := ⟨h.1.below hb, h.2⟩
theorem IR.len {w : World} {A : Option Addr} {c : Nat} {l : List Int} (h : IR w A c l) : l.length ≤ 140737488351232 := h.1.len
theorem IR.bd {w : World} {A : Option Addr} {c : Nat} {l : List Int} (h : IR w A c l) {i : Nat} (hi : i < l.length) : -9223372036854775808 ≤ it l i ∧ it l i ≤ 9223372036854775807 := by
  rw [it_in hi]; exact h.2 _ (List.getElem_mem hi)

/-- The biases are right. -/
def biasB (b : Int) (l : List Int) : Bool := !anyI l.length (fun i => decide (it l i < 1) || decide (b ≤ it l i))
theorem biasB_iff {b : Int} {l : List Int} : biasB b l = true ↔ ∀ i, i < l.length → 1 ≤ it l i ∧ it l i < b := by
  unfold biasB
  rw [Bool.not_eq_true', ← Bool.not_eq_true, anyI_iff]
  constructor
  · intro h i hi
    refine ⟨?_, ?_⟩
    · rcases Int.lt_or_le (it l i) 1 with h1 | h1
      · exact absurd ⟨i, hi, by simp [h1]⟩ h
      · exact h1
    · rcases Int.lt_or_le (it l i) b with h1 | h1
      · exact h1
      · exact absurd ⟨i, hi, by simp [h1]⟩ h
  · rintro h ⟨i, hi, hp⟩
    have := h i hi
    simp at hp
    omega
theorem biasB_no {b : Int} {l : List Int} {i : Nat} (hi : i < l.length) (h : it l i < 1 ∨ b ≤ it l i) : biasB b l = false := by
  cases hb : biasB b l
  · rfl
  · have := biasB_iff.1 hb i hi; omega
/-- A valid code of scores. -/
def scoresB (u b : Int) (l : List Int) : Bool := decide (1 ≤ u ∧ u ≤ 64 ∧ 2 ≤ b ∧ b ≤ 32 ∧ 1 ≤ l.length ∧ l.length ≤ 64) && biasB b l
theorem scoresB_parts {u b : Int} {l : List Int} (h : scoresB u b l = true) : (1 ≤ u ∧ u ≤ 64 ∧ 2 ≤ b ∧ b ≤ 32 ∧ 1 ≤ l.length ∧ l.length ≤ 64) ∧ ∀ i, i < l.length → 1 ≤ it l i ∧ it l i < b := by
  simp only [scoresB, Bool.and_eq_true, decide_eq_true_eq] at h
  exact ⟨h.1, biasB_iff.1 h.2⟩
theorem scoresB_no {u b : Int} {l : List Int} (h : ¬ (1 ≤ u ∧ u ≤ 64 ∧ 2 ≤ b ∧ b ≤ 32 ∧ 1 ≤ l.length ∧ l.length ≤ 64)) : scoresB u b l = false := by
  unfold scoresB
  rw [decide_eq_false h]; rfl
theorem scoresB_bias {u b : Int} {l : List Int} (h : 1 ≤ u ∧ u ≤ 64 ∧ 2 ≤ b ∧ b ≤ 32 ∧ 1 ≤ l.length ∧ l.length ≤ 64) : scoresB u b l = biasB b l := by
  unfold scoresB
  rw [decide_eq_true h]; rfl
/-- The first condition that fails, if any. -/
theorem scores_ways (u b : Int) (n : Nat) : u < 1 ∨ (1 ≤ u ∧ 64 < u) ∨ (1 ≤ u ∧ u ≤ 64 ∧ b < 2) ∨ (1 ≤ u ∧ u ≤ 64 ∧ 2 ≤ b ∧ 32 < b) ∨ (1 ≤ u ∧ u ≤ 64 ∧ 2 ≤ b ∧ b ≤ 32 ∧ n < 1) ∨ (1 ≤ u ∧ u ≤ 64 ∧ 2 ≤ b ∧ b ≤ 32 ∧ 1 ≤ n ∧ 64 < n) ∨ (1 ≤ u ∧ u ≤ 64 ∧ 2 ≤ b ∧ b ≤ 32 ∧ 1 ≤ n ∧ n ≤ 64) := by omega
/-- The code as a value. -/
def scC (u b : Int) (A : Option Addr) (n c : Nat) (k : List UInt8) : List Value := .int .i64 u :: .int .i64 b :: .slice A n c :: cellsB k
def scV (u b : Int) (A : Option Addr) (n c : Nat) (k : List UInt8) : Value := .agg (scC u b A n c k).toArray
theorem key_parts {k : List UInt8} (h : k.length = 16) : ∃ a0 a1 a2 a3 a4 a5 a6 a7 a8 a9 a10 a11 a12 a13 a14 a15, k = [a0, a1, a2, a3, a4, a5, a6, a7, a8, a9, a10, a11, a12, a13, a14, a15] := by
  match k, h with
  | [a0, a1, a2, a3, a4, a5, a6, a7, a8, a9, a10, a11, a12, a13, a14, a15], _ => exact ⟨_, _, _, _, _, _, _, _, _, _, _, _, _, _, _, _, rfl⟩

/-- The word of a user. -/
def scoreWordS (k : List UInt8) (b : Int) (l : List Int) (u : Int) : List UInt8 := (List.range l.length).map fun i => if (numS (derS k 70 (UInt64.ofNat u.toNat)) (UInt64.ofNat i) (UInt64.ofNat b.toNat)).toNat < (it l i).toNat then 1 else 0
theorem scoreWordS_length (k : List UInt8) (b : Int) (l : List Int) (u : Int) : (scoreWordS k b l u).length = l.length := by simp [scoreWordS]
/-- What a place adds. -/
def partS (b a : Int) (w y : Nat) : Int := if y = 2 then 0 else if y = 0 then (if w = y then a else a - b) else (if w = y then b - a else -a)
/-- The sum of the first k places. -/
def sumS (b : Int) (l : List Int) (w y : List UInt8) : Nat → Int
  | 0 => 0
  | k + 1 => sumS b l w y k + partS b (it l k) (bt w k) (bt y k)
theorem partS_bd {b a : Int} {w y : Nat} (hb : 2 ≤ b ∧ b ≤ 32) (ha : 1 ≤ a ∧ a < b) : -32 ≤ partS b a w y ∧ partS b a w y ≤ 32 := by
  unfold partS
  split
  · omega
  · split
    · split <;> omega
    · split <;> omega
theorem sumS_bd {b : Int} {l : List Int} {w y : List UInt8} (hb : 2 ≤ b ∧ b ≤ 32) (hl : ∀ i, i < l.length → 1 ≤ it l i ∧ it l i < b) : ∀ k, k ≤ l.length → -(32 * (k : Int)) ≤ sumS b l w y k ∧ sumS b l w y k ≤ 32 * (k : Int) := by
  intro k
  induction k with
  | zero => intro _; simp [sumS]
  | succ k ih =>
    intro hk
    have h1 := ih (by omega)
    have h2 := partS_bd (w := bt w k) (y := bt y k) hb (hl k (by omega))
    rw [sumS]
    omega
/-- The answers. -/
def swS (u b : Int) (l : List Int) (k : List UInt8) (x : Int) : List UInt8 × Int := if scoresB u b l = true then (if 0 ≤ x ∧ x < u then (scoreWordS k b l x, 0) else ([], 2)) else ([], 70)
def scS (u b : Int) (l : List Int) (w y : List UInt8) : Int × Int := if scoresB u b l = true then (if wordB w l.length = true ∧ copyB y l.length = true then (sumS b l w y l.length, 0) else (0, 71)) else (0, 70)
end Go.Proofs.Ytenpkmgbaajeeaa

/- Rows of ints of the call's own; rows of bools in a block. -/
namespace Go.Proofs.Ytenpkmgbaajeeaa
open Go.RowKit
set_option linter.unusedVariables false
set_option linter.unusedSimpArgs false

def OI (B : Nat) (w : World) (A : Option Addr) (c : Nat) (l : List Int) : Prop := w.ownsRow B 3 1 (.slice A l.length c) l.length (cellsI l)
theorem int_info' : (Try.prog.info? 3).map (fun i => (i.zero, i.size, i.bytes)) = some (some (.int .i64 0), 1, 8) := by kernel_rfl
theorem cellsI_length (l : List Int) : (cellsI l).length = l.length := by simp [cellsI]
theorem cellsI_append (a b : List Int) : cellsI (a ++ b) = cellsI a ++ cellsI b := by simp [cellsI]
theorem cellsI_one (l : List Int) : ∀ u ∈ cellsI l, u.oneCell' = true := by
  intro u hu
  obtain ⟨x, _, rfl⟩ := List.mem_map.1 hu
  rfl
theorem OI.below {B : Nat} {w w' : World} {A : Option Addr} {c : Nat} {l : List Int} (h : OI B w A c l) (hb : Below w.heap.size w w') : OI B w' A c l := ownsRow_below h hb
theorem OI.nil (B : Nat) (w : World) : OI B w none 0 [] := World.ownsRow_nil w B _ 1
theorem OI.ir {B : Nat} {w : World} {A : Option Addr} {c : Nat} {l : List Int} (h : OI B w A c l) (hl : l.length ≤ 140737488351232) (hb : ∀ x ∈ l, -9223372036854775808 ≤ x ∧ x ≤ 9223372036854775807) : IR w A c l := ⟨Rd.of_own h hl, hb⟩
theorem OI.le_ {B B' : Nat} {w : World} {A : Option Addr} {c : Nat} {l : List Int} (h : OI B w A c l) (hB : B' ≤ B) : OI B' w A c l :=
  ⟨h.1, h.2.elim Or.inl (fun ⟨g, cap, cur, hv, hg, r⟩ => Or.inr ⟨g, cap, cur, hv, Nat.le_trans hB hg, r⟩)⟩
theorem OI.lit (B : Nat) (w : World) (l : List Int) (hB : B ≤ w.heap.size) (hl : l.length ≤ 1000000) {n : Nat} (hn : l.length = n) : OI B (w.alloc (.cells (cellsI l).toArray 3)) (some ⟨w.heap.size, 0, none⟩) n l := by
  subst hn
  exact World.ownsRow_lit (e := 3) (size := 1) w (cellsI l).toArray l.length hB (by simp only [maxLen]; omega) (by simp [cellsI])
/-- A row just made, over its whole block. -/
theorem Blk.oi {B : Nat} {w : World} {g : Nat} {l : List Int} {n c : Nat} (h : Blk w g 3 (cellsI l).toArray) (hB : B ≤ g) (hn : l.length = n) (hc : c = n) (hc2 : n ≤ 1000000) : OI B w (some ⟨g, 0, none⟩) c l := by
  subst hn hc
  refine ⟨by simp [cellsI], .inr ⟨g, l.length, (cellsI l).toArray, rfl, hB, h, Nat.le_refl _, by simp only [maxLen]; omega, by simp [cellsI], ?_⟩⟩
  rw [Nat.mul_one]
  exact List.take_of_length_le (by simp [cellsI])
theorem wpList_append_int (w : World) {ops : Array Oper} {rest : List Oper} {o : Oper} {a : Act} {Q : Exit → Act → World → Prop} (hgd : o.guard = none) (s x : Operand)
    (ho : o.op = .call { callee := .builtin .append, args := #[s, x], argTypes := #[30, 30] })
    (B : Nat) (A : Option Addr) (n c : Nat) (l : List Int) (hn : l.length = n) (hs : a.eval s = .slice A n c) (hown : OI B w A c l)
    (v : Int) (X : Option Addr) (d : Nat) (hx : a.eval x = .slice X 1 d) (hsrc : Src w 1 X 1 [.int .i64 v])
    (hlen : (n + 1) * 8 ≤ 140737488355328) (hB : B ≤ w.heap.size)
    (h : ∀ A' c' w', OI B w' A' c' (l ++ [v]) → Below B w w' → w.grownBy w' (Value.ownBlock (.slice A n c)) → wpList Try.prog ops Q rest (a.put o.dst (.slice A' (n + 1) c')) w') : wpList Try.prog ops Q (o :: rest) a w := by
  obtain ⟨i0, hi, hz0, hz1, hz2⟩ := info_parts int_info'
  subst hn
  refine wpList_append_src w hgd s x 30 ho B 3 i0 (.int .i64 0) 1 8 Try.underlying30 hi hz0 hz1 hz2 rfl (by omega) A l.length c (cellsI l) hs hown X 1 d [.int .i64 v] hx hsrc (by intro u hu; rw [List.mem_singleton.1 hu]; rfl)
    (by simp only [maxLen]; omega) hlen hB ?_
  intro A' c' w' h1 h2 h3
  have e : (l ++ [v]).length = l.length + 1 := by simp
  refine h A' c' w' ?_ (grown_below (Below.refl _ _) hown h2 hB (Nat.le_refl _)) h2
  unfold OI
  rw [cellsI_append, e]
  exact h1
theorem made_ints (n : Nat) : madeCells #[Value.int .i64 0] n = (cellsI (List.replicate n 0)).toArray := by
  apply Array.toList_inj.1
  rw [toList_madeCells_one]
  simp [cellsI]

/-- Bools in a block. -/
def cellsT (n : Nat) (p : Nat → Bool) : List Value := (List.range n).map fun i => .bool (p i)
theorem cellsT_length (n : Nat) (p : Nat → Bool) : (cellsT n p).length = n := by simp [cellsT]
theorem cellsT_get {n i : Nat} {p : Nat → Bool} (hi : i < n) : (cellsT n p).toArray[i]? = some (.bool (p i)) := by simp [cellsT, hi]
theorem cellsT_congr {n : Nat} {p q : Nat → Bool} (h : ∀ i, i < n → p i = q i) : cellsT n p = cellsT n q := by
  refine List.ext_getElem (by simp [cellsT]) fun i h1 h2 => ?_
  have : i < n := by simpa [cellsT] using h1
  simp [cellsT, h i this]
theorem cellsT_put {n i : Nat} {p : Nat → Bool} {b : Bool} (hi : i < n) : (cellsT n p).toArray.setIfInBounds i (.bool b) = (cellsT n (fun j => if j = i then b else p j)).toArray := by
  rw [List.setIfInBounds_toArray]
  congr 1
  refine List.ext_getElem (by simp [cellsT]) fun j h1 h2 => ?_
  simp only [cellsT, List.getElem_set, List.getElem_map, List.getElem_range]
  by_cases e : i = j
  · subst e; simp
  · rw [if_neg e, if_neg (fun h => e h.symm)]
theorem made_bools (n : Nat) : madeCells #[Value.bool false] n = (cellsT n (fun _ => false)).toArray := by
  apply Array.toList_inj.1
  rw [toList_madeCells_one]
  refine List.ext_getElem (by simp [cellsT]) fun j h1 h2 => ?_
  simp [cellsT]
end Go.Proofs.Ytenpkmgbaajeeaa
