/-
  Lemmas and contracts, joined.
-/
import Derived.Test.YtchnaimpmegbkaaGreatDoorTfTl1
import Derived.Test.YtchnaimpmegbkaaGreatDoorTfTn4
import Derived.Test.YtchnaimpmegbkaaGreatDoorTfTh1
import Derived.Test.YtchnaimpmegbkaaGreatDoorTfTw1
set_option linter.unusedSimpArgs false
set_option linter.unusedVariables false
set_option linter.unnecessarySimpa false
/- Tails: the program's. -/
namespace Go.Proofs.YtchnaimpmegbkaaGreatDoor
open Go.RowKit
set_option linter.unusedVariables false
set_option linter.unusedSimpArgs false

/-- A tail, or the error. -/
def tailS (d k x : Int) : (List Nat × List Nat) × Int := if d < 1 ∨ 64 < d ∨ k < 0 ∨ 2 * d < k ∨ x < -1 ∨ k < x then (([], []), 2) else (lowS (divsN d.toNat k.toNat (x + 1).toNat) (bin (2 * d.toNat) d.toNat), 0)
theorem tailS_no {d k x : Int} (h : d < 1 ∨ 64 < d ∨ k < 0 ∨ 2 * d < k ∨ x < -1 ∨ k < x) : tailS d k x = (([], []), 2) := by rw [tailS, if_pos h]
theorem tailS_yes {d k X : Nat} {x : Int} (hX : x + 1 = (X : Int)) (h1 : 1 ≤ d) (h2 : d ≤ 64) (h3 : k ≤ 2 * d) (h4 : X ≤ k + 1) : tailS (d : Int) (k : Int) x = (lowS (divsN d k X) (bin (2 * d) d), 0) := by
  rw [tailS, if_neg (by omega), hX, Int.toNat_natCast, Int.toNat_natCast, Int.toNat_natCast]
theorem divsN_le {d k x : Nat} (hk : k ≤ 2 * d) (hx : x ≤ k + 1) : divsN d k x ≤ bin (2 * d) d := by
  rw [← divsN_all hk]
  exact sumN_mono _ hx
theorem divsN_succ (d k x : Nat) : divsN d k (x + 1) = divsN d k x + pick k (2 * d - k) d x := rfl
theorem sm_all {d : Nat} (h : d ≤ 64) : Sm (bin (2 * d) d) := sm_bin (by omega)
theorem box2_ (w : World) (c0 z0 : Array Value) (t0 : TypeId) {W : World} (hW : W = (w.alloc (.cells z0 t0)).setRow w.heap.size c0) : Below w.heap.size w W ∧ Blk W w.heap.size t0 c0 := by
  subst hW
  exact ⟨below_setRow (alloc_bel w _) (Nat.le_refl _) _, (Blk.new w _ _).setRow _⟩

set_option maxHeartbeats 8000000 in
set_option maxRecDepth 100000 in
theorem tail_out (d k x : Int) (w : World) (h : d < 1 ∨ 64 < d ∨ k < 0 ∨ 2 * d < k ∨ x < -1 ∨ k < x) :
    Calls Tryz.prog 20 #[.int .i64 d, .int .i64 k, .int .i64 x] w fun e w' => Frac2 w w' e (tailS d k x) := by
  have HS := Lib.hid (tailS_no h)
  have b0 := alloc_bel w (.cells #[.slice none 0 0, .slice none 0 0] 27)
  by_cases hd : d < 1 ∨ 64 < d
  · clear h
    go_enter Tryz.func20, Tryz.ntmps20
    go_wp2_with fail
    all_goals first | omega | exact bodyPost_ret (v := .tuple #[.agg #[.slice none 0 0, .slice none 0 0], .int .i64 2]) (by simp [results, Tryz.f20, go_sem]) rfl (Frac2.mk' HS.out (FracNew.zero b0))
  · have e1 : IntKind.i64.wrap (2 * d) = 2 * d := by rw [IntKind.wrap_i64]; omega
    have h1 : 1 ≤ d := by omega
    have h2 : d ≤ 64 := by omega
    clear hd
    go_enter Tryz.func20, Tryz.ntmps20
    go_wp2_with fail
    all_goals first | omega | exact bodyPost_ret (v := .tuple #[.agg #[.slice none 0 0, .slice none 0 0], .int .i64 2]) (by simp [results, Tryz.f20, go_sem]) rfl (Frac2.mk' HS.out (FracNew.zero b0))

set_option maxHeartbeats 8000000 in
set_option maxRecDepth 100000 in
theorem tail_in (d k X : Nat) (x : Int) (w : World) (hX : x + 1 = (X : Int)) (h1 : 1 ≤ d) (h2 : d ≤ 64) (h3 : k ≤ 2 * d) (h4 : X ≤ k + 1) :
    Calls Tryz.prog 20 #[.int .i64 (d : Int), .int .i64 (k : Int), .int .i64 x] w fun e w' => Frac2 w w' e (tailS d k x) := by
  have HS := Lib.hid (tailS_yes hX h1 h2 h3 h4)
  obtain ⟨n, hn⟩ : ∃ n, k + n = 2 * d := ⟨2 * d - k, by omega⟩
  have hn2 : 2 * d - k = n := by omega
  have e1 : IntKind.i64.wrap (2 * (d : Int)) = 2 * (d : Int) := by rw [IntKind.wrap_i64]; omega
  have e2 : IntKind.i64.wrap (x + 1) = (X : Int) := by rw [IntKind.wrap_i64]; omega
  have hd1 : (1 : Int) ≤ d := by omega
  have hd2 : (d : Int) ≤ 64 := by omega
  have hk2 : (k : Int) ≤ 2 * (d : Int) := by omega
  have hx1 : -1 ≤ x := by omega
  have hx2 : x ≤ (k : Int) := by omega
  have hXi : (X : Int) ≤ 129 := by omega
  have HDV : Hid (∀ W, Calls Tryz.prog 50 #[.int .i64 (d : Int), .int .i64 (k : Int)] W fun e w' => (∃ M cm O co, e = .returned (.agg (divC d k n M cm O co)) ∧ DivR W.heap.size w' k n M cm O co) ∧ Below W.heap.size W w') := fun W => divided_any d k n W h2 hn
  have HWT : Hid (∀ i, i ≤ k → ∀ B M cm O co W, DivR B W k n M cm O co → Calls Tryz.prog 53 #[.agg (divC d k n M cm O co), .int .i64 (i : Int)] W fun e w' => (∃ X x', e = .returned (.slice X (digs (pick k n d i)).length x') ∧ NR w' X x' (digs (pick k n d i))) ∧ Below W.heap.size W w') := fun i hi B M cm O co W hW => with_any d k n i M cm O co W hW h2 hn (by omega)
  have HAL : Hid (∀ M cm O co W, Calls Tryz.prog 54 #[.agg (divC d k n M cm O co)] W fun e w' => (∃ X x', e = .returned (.slice X (digs (bin (2 * d) d)).length x') ∧ NR w' X x' (digs (bin (2 * d) d))) ∧ Below W.heap.size W w') := fun M cm O co W => all_any d k n M cm O co W h2
  have HSM : Hid (∀ i, i ≤ k + 1 → Sm (divsN d k i)) := fun i hi => (sm_all h2).mono (divsN_le h3 hi)
  have HSA : Hid (Sm (bin (2 * d) d) ∧ bin (2 * d) d ≠ 0) := ⟨sm_all h2, by have := bin_pos (a := 2 * d) (b := d) (by omega); omega⟩
  have HPK : Hid (∀ i, divsN d k (i + 1) = divsN d k i + pick k n d i) := fun i => by rw [divsN_succ, hn2]
  have HMU : Hid (∀ A n c W, Calls Tryz.prog 51 #[.slice A n c, .int .i64 0] W fun e w' => e = .returned (.slice A n c) ∧ Below W.heap.size W w') := fun A n c W => must_any A n c 0 W
  have HXK := Lib.hid h4
  obtain ⟨W0, hW0⟩ : ∃ W, W = w.alloc (.cells #[.slice none 0 0, .slice none 0 0] 27) := ⟨_, rfl⟩
  have b0 : Hid (Below w.heap.size w W0) := by unfold Hid; rw [hW0]; exact alloc_bel w _
  have Q0 : Blk W0 w.heap.size 27 #[.slice none 0 0, .slice none 0 0] := by rw [hW0]; exact Blk.new w _ _
  have HQ : Hid (∀ W, Below W0.heap.size W0 W → Blk W w.heap.size 27 #[.slice none 0 0, .slice none 0 0]) := fun W hW => Q0.below' hW
  have HZ0 : Hid (W0.heap.size = w.heap.size + 1) := by unfold Hid; rw [hW0]; simp
  have HW0 := Lib.hid hW0
  clear hW0 Q0 hX h1 h2 h3 h4 hn hn2
  go_enter Tryz.func20, Tryz.ntmps20
  go_wp2_with (first
    | (go_at_call 50; rw [← HW0.out]; (with_reducible refine (HDV.out _).mono ?_); rintro e w1 ⟨⟨M, cm, O, co, rfl, hr⟩, hb⟩; have R1 := Lib.hid hr; have D1 := Lib.hid hb; clear hr hb)
    | (refine wpList_store_row rfl 108 (.tmp 8) (.tmp 39) rfl w1.heap.size (divC d k n M cm O co) rfl rfl 108 #[.int .i64 0, .slice none 0 0, .slice none 0 0] (Blk.new w1 _ _) (by kernel_rfl) rfl (by simp [divC, Value.oneCell']) ?_; obtain ⟨w2, hV⟩ : ∃ W, W = (w1.alloc (.cells #[.int .i64 0, .slice none 0 0, .slice none 0 0] 108)).setRow w1.heap.size (divC d k n M cm O co) := ⟨_, rfl⟩; rw [← hV]; obtain ⟨gb, nb⟩ := box2_ _ _ _ _ hV; have D2 := Lib.hid (bel_on D1.out gb); have R2 := Lib.hid (R1.out.below gb); have G2 := Lib.hid nb; clear hV gb nb))
  all_goals first | omega | skip
  go_loopw [9, 42] (fun vs vi wr => ∃ (i ls s : Nat) (S : Option Addr), i ≤ X ∧ vi = .int .i64 (i : Int) ∧ vs = .slice S ls s ∧ Hid ((digs (divsN d k i)).length = ls) ∧ Hid (NR wr S s (digs (divsN d k i))) ∧ Below w2.heap.size w2 wr) (fun _ vi _ => X - (intOf vi).toNat)
  case atStart => exact ⟨0, 0, 0, none, by omega, rfl, rfl, rfl, NR.nil _, Below.refl _ _⟩
  case round =>
    obtain ⟨i, ls, s, S, hi, rfl, rfl, HLS, HRS, hbel⟩ := hrel
    by_cases hlt : i < X
    · have hii : (i : Int) < X := by omega
      have hik : i ≤ k := by have := HXK.out; omega
      obtain ⟨lp, hlp⟩ : ∃ l, (digs (pick k n d i)).length = l := ⟨_, rfl⟩
      obtain ⟨ls2, hls2⟩ : ∃ l, (digs (divsN d k (i + 1))).length = l := ⟨_, rfl⟩
      have HW1 := Lib.hid (HWT.out i hik)
      rw [hlp] at HW1
      have HAD : Hid (∀ A' c' W, NR W S s (digs (divsN d k i)) → NR W A' c' (digs (pick k n d i)) → Calls Tryz.prog 52 #[.slice S ls s, .slice A' lp c'] W fun e w' => (∃ X x, e = .returned (.tuple #[.slice X ls2 x, .int .i64 0]) ∧ NR w' X x (digs (divsN d k (i + 1)))) ∧ Below W.heap.size W w') := fun A' c' W g1 g2 => by
        have e := HPK.out i
        have hs := HSM.out (i + 1) (by omega)
        rw [e] at hs
        have := addD_any (x := divsN d k i) (y := pick k n d i) hs HLS.out hlp g1 g2
        rwa [← e, hls2] at this
      have HLS2 := Lib.hid hls2
      have B2 := Lib.hid (G2.out.below' hbel)
      have R3 := Lib.hid (R2.out.below hbel)
      clear hlp hls2
      go_wp2_with (first
        | (refine wpList_load_row rfl 108 (.tmp 8) rfl (w1.heap.size) rfl 108 (divC d k n M cm O co) (0, 0) _ B2.out Tryz.underlying108 rfl (by kernel_rfl) ?_)
        | (go_at_call 53; (with_reducible refine (HW1.out _ _ _ _ _ _ R3.out).mono ?_); rintro e w3 ⟨⟨P3, p3, rfl, hp⟩, hb⟩; have P4 := Lib.hid hp; have S4 := Lib.hid (HRS.out.below hb); have D3 := Lib.hid (bel_on hbel hb); clear hp hb)
        | (go_at_call 52; (with_reducible refine (HAD.out _ _ _ S4.out P4.out).mono ?_); rintro e w4 ⟨⟨S5, s5, rfl, hp⟩, hb⟩; have S6 := Lib.hid hp; have D4 := Lib.hid (bel_on D3.out hb); clear hp hb)
        | (go_at_call 51; (with_reducible refine (HMU.out _ _ _ _).mono ?_); rintro e w5 ⟨rfl, hb⟩; have S7 := Lib.hid (S6.out.below hb); have D5 := Lib.hid (bel_on D4.out hb); clear hb))
      go_roundw
      case rel => exact ⟨i + 1, ls2, s5, S5, by omega, by go_num, rfl, HLS2.out, S7.out, D5.out⟩
      case measure => simp [intOf]; omega
    · obtain rfl : i = X := by omega
      have hx : ¬ ((i : Int) < i) := by omega
      have B2 := Lib.hid (G2.out.below' hbel)
      obtain ⟨la, hla⟩ : ∃ l, (digs (bin (2 * d) d)).length = l := ⟨_, rfl⟩
      have HRT : Hid (∀ A' c' W, NR W S s (digs (divsN d k i)) → NR W A' c' (digs (bin (2 * d) d)) → Calls Tryz.prog 22 #[.slice S ls s, .slice A' la c'] W fun e w' => ∃ v, e = .returned (.tuple #[v, .int .i64 0]) ∧ FracNew W w' v (lowS (divsN d k i) (bin (2 * d) d))) := fun A' c' W g1 g2 => ratioD_any (HSM.out i HXK.out) HSA.out.1 HSA.out.2 HLS.out hla g1 g2
      rw [hla] at HAL
      clear hla
      go_wp2_with (first
        | (refine wpList_load_row rfl 108 (.tmp 8) rfl (w1.heap.size) rfl 108 (divC d k n M cm O co) (0, 0) _ B2.out Tryz.underlying108 rfl (by kernel_rfl) ?_)
        | (go_at_call 54; (with_reducible refine (HAL.out _ _ _ _ _).mono ?_); rintro e w3 ⟨⟨P3, p3, rfl, hp⟩, hb⟩; have P4 := Lib.hid hp; have S4 := Lib.hid (HRS.out.below hb); have D3 := Lib.hid (bel_on hbel hb); clear hp hb))
      go_at_call 22
      refine (HRT.out _ _ _ S4.out P4.out).mono ?_
      rintro e w9 ⟨v, rfl, hf⟩
      clear HRT
      obtain ⟨Xa, xc, Y, yd, rfl, hXX, hY, hap, hbf⟩ := hf
      have DF := bel_on D2.out (bel_on D3.out hbf)
      have QF := HQ.out _ DF
      have k0 := QF.cell 0
      have k1 := QF.cell 1
      have f0 := QF.frozen 0
      have f1 := QF.frozen 1
      have HBF := Lib.hid (bel_on b0.out DF)
      have HLE : Hid (w.heap.size + 1 ≤ w3.heap.size) := by
        have a1 := HZ0.out
        have a2 := D2.out.size
        have a3 := D3.out.size
        unfold Hid; omega
      have HFX := Lib.hid (hXX.mono HLE.out)
      have HFY := Lib.hid (hY.mono HLE.out)
      have HAP := Lib.hid hap
      obtain ⟨r, hr⟩ : ∃ r, lowS (divsN d k i) (bin (2 * d) d) = r := ⟨_, rfl⟩
      rw [hr] at HFX HFY HAP HS
      obtain ⟨r1, r2⟩ := r
      dsimp only at HFX HFY HAP HS
      generalize hlx : (lowS (divsN d k i) (bin (2 * d) d)).1.length = lx
      generalize hly : (lowS (divsN d k i) (bin (2 * d) d)).2.length = ly
      rw [hr] at hlx hly
      dsimp only at hlx hly
      have HLX := Lib.hid hlx
      have HLY := Lib.hid hly
      clear QF hXX hY hap hbf hr hlx hly DF
      go_wp2_with fail
      refine bodyPost_ret (v := .tuple #[.agg #[.slice Xa lx xc, .slice Y ly yd], .int .i64 0]) (by simp [results, Tryz.f20, go_sem, k0, k1, f0, f1]) rfl (Frac2.mk' HS.out ?_)
      rw [← HLX.out, ← HLY.out]
      exact fracNew_store HFX.out HFY.out HAP.out (Nat.le_refl _) HBF.out _ _
theorem Tail_any (d k x : Int) (w : World) : Calls Tryz.prog 20 #[.int .i64 d, .int .i64 k, .int .i64 x] w fun e w' => Frac2 w w' e (tailS d k x) := by
  by_cases h : d < 1 ∨ 64 < d ∨ k < 0 ∨ 2 * d < k ∨ x < -1 ∨ k < x
  · exact tail_out d k x w h
  · obtain ⟨D, rfl⟩ : ∃ D : Nat, d = (D : Int) := ⟨d.toNat, by omega⟩
    obtain ⟨K, rfl⟩ : ∃ K : Nat, k = (K : Int) := ⟨k.toNat, by omega⟩
    obtain ⟨X, hX⟩ : ∃ X : Nat, x + 1 = (X : Int) := ⟨(x + 1).toNat, by omega⟩
    exact tail_in D K X x w hX (by omega) (by omega) (by omega) (by omega)
end Go.Proofs.YtchnaimpmegbkaaGreatDoor

/- Chances of agreement: the program's and the reference's. -/
namespace Go.Proofs.YtchnaimpmegbkaaGreatDoor
open Go.RowKit
set_option linter.unusedVariables false
set_option linter.unusedSimpArgs false

end Go.Proofs.YtchnaimpmegbkaaGreatDoor

/- Tails: the reference's. -/
namespace Go.Proofs.YtchnaimpmegbkaaGreatDoor
open Go.RowKit
set_option linter.unusedVariables false
set_option linter.unusedSimpArgs false

end Go.Proofs.YtchnaimpmegbkaaGreatDoor

/- Thresholds: both sides. -/
namespace Go.Proofs.YtchnaimpmegbkaaGreatDoor
open Go.RowKit
set_option linter.unusedVariables false
set_option linter.unusedSimpArgs false

theorem dig12 {n : Nat} (h : n ≤ 2 ^ 150) : (digs n).length ≤ 12 := digs_len_le (Nat.lt_of_le_of_lt h (by decide +kernel))
theorem all12 {d : Nat} (h : d ≤ 64) : (digs (bin (2 * d) d)).length ≤ 12 := dig12 (Nat.le_trans (bin_le _ _) (Nat.pow_le_pow_right (by omega) (by omega)))
theorem divs12 {d k i : Nat} (h : d ≤ 64) (hk : k ≤ 2 * d) (hi : i ≤ k + 1) : (digs (divsN d k i)).length ≤ 12 := Nat.le_trans (digs_len_mono (divsN_le hk hi)) (all12 h)
/-- The threshold of a valid code. -/
def StV.th (s : StV) (k : Nat) : Int := thS s.b.toNat k (val s.x) (val s.y)

set_option maxHeartbeats 8000000 in
set_option maxRecDepth 100000 in
theorem threshold_any (s : StV) (k : Nat) (w : World) (h : StOK w s) (hok : s.ok = true) (hk : (k : Int) ≤ 2 * s.b) :
    Calls Tryz.prog 79 #[.agg s.cs.toArray, .int .i64 (k : Int)] w fun e w' => e = .returned (.int .i64 (s.th k)) ∧ Below w.heap.size w w' := by
  obtain ⟨⟨q1, q2, q3, q4⟩, hl⟩ := StV.parts hok
  obtain ⟨d, hd⟩ : ∃ d : Nat, s.b = (d : Int) := ⟨s.b.toNat, by omega⟩
  have hT : s.th k = thS d k (val s.x) (val s.y) := by unfold StV.th; rw [hd, Int.toNat_natCast]
  rw [hT]
  have h1 : 1 ≤ d := by omega
  have h2 : d ≤ 64 := by omega
  have h3 : k ≤ 2 * d := by omega
  have hks := h.k16
  obtain ⟨n, hn⟩ : ∃ n, k + n = 2 * d := ⟨2 * d - k, by omega⟩
  have hn2 : 2 * d - k = n := by omega
  have hki : (k : Int) ≤ 128 := by omega
  have hdi : (d : Int) ≤ 64 := by omega
  obtain ⟨P, hP⟩ : ∃ P, P = underB d k (val s.x) (val s.y) := ⟨_, rfl⟩
  have hPu : ∀ i, P i = decide (divsN d k (i + 1) * val s.y ≤ val s.x * bin (2 * d) d) := fun i => by rw [hP]; rfl
  have HTH : Hid (thS d k (val s.x) (val s.y) = (lead P (k + 1) : Int) - 1) := by unfold Hid; rw [hP]; rfl
  have HSM : Hid (∀ i, i ≤ k + 1 → Sm (divsN d k i)) := fun i hi => (sm_all h2).mono (divsN_le h3 hi)
  have HPK : Hid (∀ i, divsN d k (i + 1) = divsN d k i + pick k n d i) := fun i => by rw [divsN_succ, hn2]
  have HWI : Hid (∀ i, i < k + 1 → ∀ W A' c' B' e', Below w.heap.size w W → NR W A' c' (digs (divsN d k (i + 1))) → NR W B' e' (digs (bin (2 * d) d)) → Calls Tryz.prog 104 #[.slice A' (digs (divsN d k (i + 1))).length c', .slice B' (digs (bin (2 * d) d)).length e', .agg #[.slice s.A s.x.length s.ca, .slice s.Bd s.y.length s.cb]] W fun e w' => e = .returned (.bool (P i)) ∧ Below W.heap.size W w') := fun i hi W A' c' B' e' hW g1 g2 => by
    have := within_any (divsN d k (i + 1)) (bin (2 * d) d) A' c' B' e' s.A s.ca s.x s.Bd s.cb s.y W rfl rfl rfl rfl g1 g2 (h.hx.below hW) (h.hy.below hW) hl (divs12 h2 h3 (by omega)) (all12 h2)
    rwa [← hPu] at this
  have HDV : Hid (∀ W, Calls Tryz.prog 50 #[.int .i64 (d : Int), .int .i64 (k : Int)] W fun e w' => (∃ M cm O co, e = .returned (.agg (divC d k n M cm O co)) ∧ DivR W.heap.size w' k n M cm O co) ∧ Below W.heap.size W w') := fun W => divided_any d k n W h2 hn
  have HWT : Hid (∀ i, i ≤ k → ∀ B M cm O co W, DivR B W k n M cm O co → Calls Tryz.prog 53 #[.agg (divC d k n M cm O co), .int .i64 (i : Int)] W fun e w' => (∃ X x', e = .returned (.slice X (digs (pick k n d i)).length x') ∧ NR w' X x' (digs (pick k n d i))) ∧ Below W.heap.size W w') := fun i hi B M cm O co W hW => with_any d k n i M cm O co W hW h2 hn (by omega)
  have HAL : Hid (∀ M cm O co W, Calls Tryz.prog 54 #[.agg (divC d k n M cm O co)] W fun e w' => (∃ X x', e = .returned (.slice X (digs (bin (2 * d) d)).length x') ∧ NR w' X x' (digs (bin (2 * d) d))) ∧ Below W.heap.size W w') := fun M cm O co W => all_any d k n M cm O co W h2
  have HMU : Hid (∀ A n c W, Calls Tryz.prog 51 #[.slice A n c, .int .i64 0] W fun e w' => e = .returned (.slice A n c) ∧ Below W.heap.size W w') := fun A n c W => must_any A n c 0 W
  obtain ⟨W0, hW0⟩ : ∃ W : World, W = w.alloc (.cells s.cs.toArray 29) := ⟨_, rfl⟩
  have b0 : Hid (Below w.heap.size w W0) := by unfold Hid; rw [hW0]; exact alloc_below _ _
  have x0 : Hid (Blk W0 w.heap.size 29 s.cs.toArray) := by unfold Hid; rw [hW0]; exact Blk.new w _ _
  obtain ⟨k0, k1, k18, k19⟩ := StV.cells hks x0.out
  have HCL : Hid (∀ W, Below W0.heap.size W0 W → W.cell? ⟨w.heap.size, 1, none⟩ = some (.int .i64 (d : Int)) ∧ W.cell? ⟨w.heap.size, 18, none⟩ = some (.slice s.A s.x.length s.ca) ∧ W.cell? ⟨w.heap.size, 19, none⟩ = some (.slice s.Bd s.y.length s.cb)) := fun W hW => by
    obtain ⟨_, g1, g2, g3⟩ := StV.cells hks (x0.out.below' hW)
    rw [hd] at g1
    exact ⟨g1, g2, g3⟩
  rw [hd] at k1
  have HW0 := Lib.hid hW0
  obtain ⟨cs, hcs⟩ : ∃ c, s.cs.toArray = c := ⟨_, rfl⟩
  rw [hcs] at HW0 ⊢
  obtain ⟨SA, hA⟩ : ∃ A, s.A = A := ⟨_, rfl⟩
  obtain ⟨SB, hB⟩ : ∃ A, s.Bd = A := ⟨_, rfl⟩
  obtain ⟨sx, hsx⟩ : ∃ n, s.x.length = n := ⟨_, rfl⟩
  obtain ⟨sy, hsy⟩ : ∃ n, s.y.length = n := ⟨_, rfl⟩
  obtain ⟨sca, hca⟩ : ∃ n, s.ca = n := ⟨_, rfl⟩
  obtain ⟨scb, hcb⟩ : ∃ n, s.cb = n := ⟨_, rfl⟩
  rw [hA, hsx, hca] at HCL HWI
  rw [hB, hsy, hcb] at HCL HWI
  obtain ⟨la, hla⟩ : ∃ l, (digs (bin (2 * d) d)).length = l := ⟨_, rfl⟩
  rw [hla] at HAL HWI
  clear hT h hok hl q1 q2 q3 q4 hd h1 h2 h3 hk hn hn2 hP hPu hW0 hcs hA hB hsx hsy hca hcb hla hks x0 k0
  go_enter Tryz.func79, Tryz.ntmps79
  go_wp2_with (first
    | (rw [← HW0.out])
    | (go_at_call 50; (with_reducible refine (HDV.out _).mono ?_); rintro e w1 ⟨⟨M, cm, O, co, rfl, hr⟩, hb⟩; have R1 := Lib.hid hr; have D1 := Lib.hid hb; clear hr hb)
    | (refine wpList_store_row rfl 108 (.tmp 5) (.tmp 12) rfl w1.heap.size (divC d k n M cm O co) rfl rfl 108 #[.int .i64 0, .slice none 0 0, .slice none 0 0] (Blk.new w1 _ _) (by kernel_rfl) rfl (by simp [divC, Value.oneCell']) ?_; obtain ⟨w2, hV⟩ : ∃ W, W = (w1.alloc (.cells #[.int .i64 0, .slice none 0 0, .slice none 0 0] 108)).setRow w1.heap.size (divC d k n M cm O co) := ⟨_, rfl⟩; rw [← hV]; obtain ⟨gb, nb⟩ := box2_ _ _ _ _ hV; have D2 := Lib.hid (bel_on D1.out gb); have R2 := Lib.hid (R1.out.below gb); have G2 := Lib.hid nb; clear hV gb nb)
    | (refine wpList_load_row rfl 108 (.tmp 5) rfl (w1.heap.size) rfl 108 (divC d k n M cm O co) (0, 0) _ G2.out Tryz.underlying108 rfl (by kernel_rfl) ?_)
    | (go_at_call 54; (with_reducible refine (HAL.out _ _ _ _ _).mono ?_); rintro e w3 ⟨⟨LA, lc, rfl, hp⟩, hb⟩; have A3 := Lib.hid hp; have G3 := Lib.hid (G2.out.below' hb); have R3 := Lib.hid (R2.out.below hb); have D3 := Lib.hid (bel_on D2.out hb); clear hp hb))
  go_loopw [7, 8] (fun vs vi wr => ∃ (i ls s : Nat) (S : Option Addr), i ≤ k + 1 ∧ vi = .int .i64 (i : Int) ∧ vs = .slice S ls s ∧ Hid ((digs (divsN d k i)).length = ls) ∧ Hid (NR wr S s (digs (divsN d k i))) ∧ Hid (lead P i = i) ∧ Below w3.heap.size w3 wr) (fun _ vi _ => k + 1 - (intOf vi).toNat)
  case atStart => exact ⟨0, 0, 0, none, by omega, rfl, rfl, rfl, NR.nil _, rfl, Below.refl _ _⟩
  case round =>
    obtain ⟨i, ls, z, S, hi, rfl, rfl, HLS, HRS, HLD, hbel⟩ := hrel
    by_cases hlt : i < k + 1
    · have hii : (i : Int) ≤ k := by omega
      have hik : i ≤ k := by omega
      obtain ⟨lp, hlp⟩ : ∃ l, (digs (pick k n d i)).length = l := ⟨_, rfl⟩
      obtain ⟨ls2, hls2⟩ : ∃ l, (digs (divsN d k (i + 1))).length = l := ⟨_, rfl⟩
      have HW1 := Lib.hid (HWT.out i hik)
      rw [hlp] at HW1
      have HW2 := Lib.hid (HWI.out i hlt)
      rw [hls2] at HW2
      have HAD : Hid (∀ A' c' W, NR W S z (digs (divsN d k i)) → NR W A' c' (digs (pick k n d i)) → Calls Tryz.prog 52 #[.slice S ls z, .slice A' lp c'] W fun e w' => (∃ X x, e = .returned (.tuple #[.slice X ls2 x, .int .i64 0]) ∧ NR w' X x (digs (divsN d k (i + 1)))) ∧ Below W.heap.size W w') := fun A' c' W g1 g2 => by
        have e := HPK.out i
        have hs := HSM.out (i + 1) (by omega)
        rw [e] at hs
        have := addD_any (x := divsN d k i) (y := pick k n d i) hs HLS.out hlp g1 g2
        rwa [← e, hls2] at this
      have HLS2 := Lib.hid hls2
      have B2 := Lib.hid (G3.out.below' hbel)
      have R4 := Lib.hid (R3.out.below hbel)
      clear hlp hls2
      cases hPi : P i with
      | true =>
        have HG := Lib.hid (lead_go HLD.out hPi)
        rw [hPi] at HW2
        clear hPi
        go_wp2_with (first
          | (refine wpList_load_row rfl 108 (.tmp 5) rfl (w1.heap.size) rfl 108 (divC d k n M cm O co) (0, 0) _ B2.out Tryz.underlying108 rfl (by kernel_rfl) ?_)
          | (go_at_call 53; (with_reducible refine (HW1.out _ _ _ _ _ _ R4.out).mono ?_); rintro e w4 ⟨⟨P3, p3, rfl, hp⟩, hb⟩; have P4 := Lib.hid hp; have S4 := Lib.hid (HRS.out.below hb); have D4 := Lib.hid (bel_on hbel hb); clear hp hb)
          | (go_at_call 52; (with_reducible refine (HAD.out _ _ _ S4.out P4.out).mono ?_); rintro e w5 ⟨⟨S5, s5, rfl, hp⟩, hb⟩; have S6 := Lib.hid hp; have D5 := Lib.hid (bel_on D4.out hb); clear hp hb)
          | (go_at_call 51; (with_reducible refine (HMU.out _ _ _ _).mono ?_); rintro e w6 ⟨rfl, hb⟩; have S7 := Lib.hid (S6.out.below hb); have D6 := Lib.hid (bel_on D5.out hb); have A6 := Lib.hid (A3.out.below (bel_on D5.out hb)); clear hb; have E6 := Lib.hid (bel_on D3.out D6.out); obtain ⟨c1, c18, c19⟩ := HCL.out _ E6.out)
          | (go_at_call 104; (with_reducible refine (HW2.out _ _ _ _ _ (bel_on b0.out E6.out) S7.out A6.out).mono ?_); rintro e w7 ⟨rfl, hb⟩; have S8 := Lib.hid (S7.out.below hb); have D7 := Lib.hid (bel_on D6.out hb); clear hb))
        go_roundw
        case rel => exact ⟨i + 1, ls2, s5, S5, by omega, by go_num, rfl, HLS2.out, S8.out, HG.out, D7.out⟩
        case measure => simp [intOf]; omega
      | false =>
        have HG := Lib.hid (lead_stop (n := k + 1) HLD.out hPi hlt)
        rw [hPi] at HW2
        clear hPi
        go_wp2_with (first
          | (refine wpList_load_row rfl 108 (.tmp 5) rfl (w1.heap.size) rfl 108 (divC d k n M cm O co) (0, 0) _ B2.out Tryz.underlying108 rfl (by kernel_rfl) ?_)
          | (go_at_call 53; (with_reducible refine (HW1.out _ _ _ _ _ _ R4.out).mono ?_); rintro e w4 ⟨⟨P3, p3, rfl, hp⟩, hb⟩; have P4 := Lib.hid hp; have S4 := Lib.hid (HRS.out.below hb); have D4 := Lib.hid (bel_on hbel hb); clear hp hb)
          | (go_at_call 52; (with_reducible refine (HAD.out _ _ _ S4.out P4.out).mono ?_); rintro e w5 ⟨⟨S5, s5, rfl, hp⟩, hb⟩; have S6 := Lib.hid hp; have D5 := Lib.hid (bel_on D4.out hb); clear hp hb)
          | (go_at_call 51; (with_reducible refine (HMU.out _ _ _ _).mono ?_); rintro e w6 ⟨rfl, hb⟩; have S7 := Lib.hid (S6.out.below hb); have D6 := Lib.hid (bel_on D5.out hb); have A6 := Lib.hid (A3.out.below (bel_on D5.out hb)); clear hb; have E6 := Lib.hid (bel_on D3.out D6.out); obtain ⟨c1, c18, c19⟩ := HCL.out _ E6.out)
          | (go_at_call 104; (with_reducible refine (HW2.out _ _ _ _ _ (bel_on b0.out E6.out) S7.out A6.out).mono ?_); rintro e w7 ⟨rfl, hb⟩; have D7 := Lib.hid (bel_on D6.out hb); clear hb))
        go_ret
        refine ⟨ret_int' ?_, bel_on b0.out (bel_on D3.out D7.out)⟩
        rw [HTH.out, HG.out] <;> omega
    · obtain rfl : i = k + 1 := by omega
      have hx : ¬ (((k + 1 : Nat) : Int) ≤ k) := by omega
      have hx2 : ¬ ((k : Int) + 1 ≤ k) := by omega
      go_wp2_with fail
      go_ret
      refine ⟨ret_int' ?_, bel_on b0.out (bel_on D3.out hbel)⟩
      rw [HTH.out, HLD.out] <;> omega
end Go.Proofs.YtchnaimpmegbkaaGreatDoor

/- Thresholds: the reference's; Threshold: both sides. -/
namespace Go.Proofs.YtchnaimpmegbkaaGreatDoor
open Go.RowKit
set_option linter.unusedVariables false
set_option linter.unusedSimpArgs false

end Go.Proofs.YtchnaimpmegbkaaGreatDoor
