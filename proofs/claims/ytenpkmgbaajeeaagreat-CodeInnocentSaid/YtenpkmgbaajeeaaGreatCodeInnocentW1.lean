/-
  Lemmas and contracts, joined.
-/
import Derived.Deep.QuietTactic
import Derived.BigQuiet
import Derived.Test.YtenpkmgbaajeeaaGreatCc1
import Derived.Test.YtenpkmgbaajeeaaGreatCp1
import Derived.Test.YtenpkmgbaajeeaaGreatCa2
import Derived.Test.YtenpkmgbaajeeaaGreatCt2
import Derived.Test.YtenpkmgbaajeeaaGreatCw1
set_option linter.unusedSimpArgs false
set_option linter.unusedVariables false
set_option linter.unnecessarySimpa false
/- Whether a code of steps is complete: the reference's, and both for any code. -/
namespace Go.Proofs.YtenpkmgbaajeeaaGreat
open Go.RowKit
set_option linter.unusedVariables false
set_option linter.unusedSimpArgs false

def thL (t : Nat → Int) (n : Nat) : List Int := (List.range n).map t
theorem thL_length (t : Nat → Int) (n : Nat) : (thL t n).length = n := by simp [thL]
theorem thL_succ (t : Nat → Int) (n : Nat) : thL t (n + 1) = thL t n ++ [t n] := by simp [thL, List.range_succ]
theorem thL_it {t : Nat → Int} {n i : Nat} (h : i < n) : it (thL t n) i = t i := by rw [it_in (by rw [thL_length]; exact h)]; simp [thL]
theorem mayS_or {d : Nat} {t : Nat → Int} {j v x : Nat} : (decide (∃ u, u < v ∧ mayS d t j u = true ∧ t (u + x) < (u : Int)) || (mayS d t j v && decide (t (v + x) < (v : Int)))) = decide (∃ u, u < v + 1 ∧ mayS d t j u = true ∧ t (u + x) < (u : Int)) := by
  rw [Bool.eq_iff_iff, Bool.or_eq_true, Bool.and_eq_true, decide_eq_true_eq, decide_eq_true_eq, decide_eq_true_eq]
  constructor
  · rintro (⟨u, h1, h2, h3⟩ | ⟨h1, h2⟩)
    · exact ⟨u, by omega, h2, h3⟩
    · exact ⟨v, by omega, h1, h2⟩
  · rintro ⟨u, h1, h2, h3⟩
    by_cases e : u = v
    · subst e; exact .inr ⟨h2, h3⟩
    · exact .inl ⟨u, by omega, h2, h3⟩
theorem mayS_fin {d : Nat} {t : Nat → Int} {j x : Nat} : decide (∃ u, u < d + 1 ∧ mayS d t j u = true ∧ t (u + x) < (u : Int)) = mayS d t (j + 1) x := by
  rw [mayS, decide_eq_decide]
  constructor
  · rintro ⟨v, hv, h1, h3⟩; exact ⟨v, by omega, h1, h3⟩
  · rintro ⟨v, hv, h1, h3⟩; exact ⟨v, by omega, h1, h3⟩
/-- What the next block may weigh, the first v weights of this one looked at. -/
def nextQ (d : Nat) (t : Nat → Int) (j v x : Nat) : Bool := decide (∃ u, u < v ∧ mayS d t j u = true ∧ t (u + x) < (u : Int))
end Go.Proofs.YtenpkmgbaajeeaaGreat

/- The law CodeTails: the walk. -/
namespace Go.Proofs.YtenpkmgbaajeeaaGreat
open Go.RowKit
set_option linter.unusedVariables false
set_option linter.unusedSimpArgs false

theorem frac2_open_ {W w' : World} {e : Ending} {r : (List Nat × List Nat) × Int} (h : Frac2 W w' e r) : ∃ X x Z z, e = .returned (.tuple #[.agg #[.slice X r.1.1.length x, .slice Z r.1.2.length z], .int .i64 r.2]) ∧ NR w' X x r.1.1 ∧ NR w' Z z r.1.2 ∧ Below W.heap.size W w' := by
  obtain ⟨v, rfl, X, x, Z, z, rfl, h1, h2, _, hb⟩ := h
  exact ⟨X, x, Z, z, rfl, h1.nr_, h2.nr_, hb⟩
set_option maxHeartbeats 8000000 in
set_option maxRecDepth 100000 in
theorem Complete_any (s : StV) (w : World) (h : StOK w s) :
    Calls Tryz.prog 61 #[.agg s.cs.toArray] w fun e w' => e = .returned (.tuple #[.bool (cmpSt s).1, .int .i64 (cmpSt s).2]) ∧ Below w.heap.size w w' := by
  cases hok : s.ok with
  | true =>
    have := complete_good s w h hok
    unfold cmpSt
    rw [hok]
    exact this
  | false =>
    have HCK : Hid (∀ W, Below w.heap.size w W → Calls Tryz.prog 21 #[.agg s.cs.toArray] W fun e w' => e = .returned (.int .i64 (ckSt s.ok)) ∧ Below W.heap.size W w') := fun W hW => CheckSteps_any s W (h.below hW)
    have hks := h.k16
    obtain ⟨W0, hW0⟩ : ∃ W : World, W = w.alloc (.cells s.cs.toArray 29) := ⟨_, rfl⟩
    have b0 : Hid (Below w.heap.size w W0) := by unfold Hid; rw [hW0]; exact alloc_below _ _
    have x0 : Hid (Blk W0 w.heap.size 29 s.cs.toArray) := by unfold Hid; rw [hW0]; exact Blk.new w _ _
    have HW0 := Lib.hid hW0
    have HIN := Lib.hid (StV.info (s := s) hks)
    have HS : Hid (cmpSt s = (false, 70)) := by unfold Hid cmpSt; rw [hok]; rfl
    rw [hok] at HCK
    rw [HS.out]
    generalize s.cs.toArray = cs at *
    clear hW0 h hks hok
    go_enter Tryz.func61, Tryz.ntmps61
    go_wp2_with (first
      | (rw [← HW0.out])
      | (refine wpList_load_row rfl 29 (.tmp 1) rfl (w.heap.size) rfl 29 cs (0, 0) _ x0.out Tryz.underlying29 rfl HIN.out ?_)
      | (go_at_call 21; (with_reducible refine (HCK.out _ b0.out).mono ?_); rintro e w1 ⟨rfl, hb⟩; have D1 := Lib.hid (bel_on b0.out hb); clear hb; simp only [ckSt]))
    go_ret2
    exact ⟨rfl, D1.out⟩
end Go.Proofs.YtenpkmgbaajeeaaGreat

/- The law CodeThreshold: the walk. -/
namespace Go.Proofs.YtenpkmgbaajeeaaGreat
open Go.RowKit
set_option linter.unusedVariables false
set_option linter.unusedSimpArgs false

theorem bin_sm {d : Nat} (h : d ≤ 64) : Sm (bin (2 * d) d) := sm_bin (by omega)
theorem bin_ne (d : Nat) : bin (2 * d) d ≠ 0 := by have := bin_pos (a := 2 * d) (b := d) (by omega); omega
theorem divs_sm {d k X : Nat} (hd : d ≤ 64) (hk : k ≤ 2 * d) (hX : X ≤ k + 1) : Sm (divsN d k X) := (bin_sm hd).mono (by have := divsN_sym hk hX; omega)
/-- The tail of the threshold is at most the limit, and that of the next number is above it. -/
theorem thr_tails {s : StV} (hok : s.ok = true) {d K : Nat} (hd : s.b = (d : Int)) (hK : K ≤ 2 * d) : ∃ X : Nat, s.th K + 1 = (X : Int) ∧ X + 1 ≤ K + 1 ∧ -1 ≤ s.th K ∧ s.th K < K ∧
    cmpFS (lowS (divsN d K X) (bin (2 * d) d)).1 (lowS (divsN d K X) (bin (2 * d) d)).2 s.x s.y = (cmpN (divsN d K X * val s.y) (val s.x * bin (2 * d) d), 0) ∧ cmpN (divsN d K X * val s.y) (val s.x * bin (2 * d) d) ≤ 0 ∧
    cmpFS (lowS (divsN d K (X + 1)) (bin (2 * d) d)).1 (lowS (divsN d K (X + 1)) (bin (2 * d) d)).2 s.x s.y = (cmpN (divsN d K (X + 1) * val s.y) (val s.x * bin (2 * d) d), 0) ∧ 0 < cmpN (divsN d K (X + 1) * val s.y) (val s.x * bin (2 * d) d) := by
  obtain ⟨⟨q1, q2, q3, q4⟩, hl⟩ := StV.parts hok
  obtain ⟨hv, h2, h3, h4⟩ := limB_iff.1 hl
  have e : s.th K = thS d K (val s.x) (val s.y) := by unfold StV.th; rw [hd, Int.toNat_natCast]
  have h5 := thS_ge d K (val s.x) (val s.y)
  have h6 := thS_lt hK h4
  have h7 := thS_over h6
  rw [e]
  obtain ⟨X, hX⟩ : ∃ X : Nat, thS d K (val s.x) (val s.y) + 1 = (X : Int) := ⟨(thS d K (val s.x) (val s.y) + 1).toNat, by omega⟩
  rw [show (thS d K (val s.x) (val s.y) + 2).toNat = X + 1 from by omega] at h7
  refine ⟨X, hX, by omega, h5, h6, low_cmp (bin_ne d) (divs_sm (by omega) hK (by omega)) (bin_sm (by omega)) hv, cmpN_le0.2 ?_, low_cmp (bin_ne d) (divs_sm (by omega) hK (by omega)) (bin_sm (by omega)) hv, cmpN_gt0.2 h7⟩
  cases X with
  | zero => simp [divsN, sumN]
  | succ X => exact thS_under (by omega)
set_option maxHeartbeats 8000000 in
set_option maxRecDepth 100000 in
theorem codeThreshold_walk0 (s : StV) (k : Int) (w0 : World) (h0 : StOK w0 s) (hk1 : -9223372036854775808 ≤ k) (hk2 : k ≤ 9223372036854775807) :
    Calls Tryz.prog 10 #[.agg s.cs.toArray, .int .i64 k] w0 fun e w' => e = .returned (.bool true) ∧ Below w0.heap.size w0 w' := by
  have hk := h0.k16
  obtain ⟨w, hW0⟩ : ∃ W : World, W = w0.alloc (.cells s.cs.toArray 29) := ⟨_, rfl⟩
  have b0 : Hid (Below w0.heap.size w0 w) := by unfold Hid; rw [hW0]; exact alloc_bel _ _
  have x0 : Hid (Blk w w0.heap.size 29 s.cs.toArray) := by unfold Hid; rw [hW0]; exact Blk.new w0 _ _
  have h := h0.below b0.out
  have HW0 := Lib.hid hW0
  have HIN := Lib.hid (StV.info (s := s) hk)
  have K0 : Hid (Below w.heap.size w w) := Below.refl _ _
  have HX : Hid (∀ W, Below w.heap.size w W → Blk W w0.heap.size 29 s.cs.toArray) := fun W hW => x0.out.below' hW
  have HTH : Hid (∀ W, Below w.heap.size w W → Calls Tryz.prog 50 #[.agg s.cs.toArray, .int .i64 k] W fun e w' => e = .returned (.tuple #[.int .i64 (thrS s k).1, .int .i64 (thrS s k).2]) ∧ Below W.heap.size W w') := fun W hW => Threshold_any s k W (h.below hW)
  have HVS : Hid (∀ W, Below w.heap.size w W → Calls Tryz.prog 43 #[.agg s.cs.toArray] W fun e w' => e = .returned (.bool s.ok) ∧ Below W.heap.size W w') := fun W hW => refValidSteps_any s W (h.below hW)
  by_cases hok : s.ok = true
  · obtain ⟨⟨q1, q2, q3, q4⟩, -⟩ := StV.parts hok
    obtain ⟨D, hD⟩ : ∃ D : Nat, s.b = (D : Int) := ⟨s.b.toNat, by omega⟩
    have HCL : Hid (∀ W, Below w.heap.size w W → W.cell? ⟨w0.heap.size, 0, none⟩ = some (.int .i64 s.u) ∧ W.cell? ⟨w0.heap.size, 1, none⟩ = some (.int .i64 (D : Int)) ∧ W.cell? ⟨w0.heap.size, 18, none⟩ = some (.slice s.A s.x.length s.ca) ∧ W.cell? ⟨w0.heap.size, 19, none⟩ = some (.slice s.Bd s.y.length s.cb)) := fun W hW => by
      have := StV.cells hk (x0.out.below' hW)
      rw [hD] at this
      exact this
    by_cases hr : k < 0 ∨ 2 * s.b < k
    · have e1 : thrS s k = (0, 2) := by unfold thrS; rw [if_pos hok, if_pos hr]
      rw [e1] at HTH
      rw [hok] at HVS
      rw [hD] at hr
      have hD64 : (D : Int) ≤ 64 := by omega
      generalize s.cs.toArray = cs at *
      clear hok hW0 h h0 hk q1 q2 q3 q4
      go_enter Tryz.func10, Tryz.ntmps10
      go_wp2_with (rw [← HW0.out])
      refine (alive_any _).mono ?_
      rintro e w1 ⟨rfl, hb1⟩
      have K1 : Hid (Below w.heap.size w w1) := hb1
      have X1 := Lib.hid (HX.out _ K1.out)
      clear hb1
      go_wp2_with (refine wpList_load_row rfl 29 (.tmp 2) rfl w0.heap.size rfl 29 cs (0, 0) _ X1.out Tryz.underlying29 rfl HIN.out ?_)
      refine (HTH.out _ K1.out).mono ?_
      rintro e w2 ⟨rfl, hb2⟩
      have K2 : Hid (Below w.heap.size w w2) := bel_on K1.out hb2
      have X2 := Lib.hid (HX.out _ K2.out)
      clear hb2
      go_wp2_with (refine wpList_load_row rfl 29 (.tmp 2) rfl w0.heap.size rfl 29 cs (0, 0) _ X2.out Tryz.underlying29 rfl HIN.out ?_)
      refine (HVS.out _ K2.out).mono ?_
      rintro e w3 ⟨rfl, hb3⟩
      have K3 : Hid (Below w.heap.size w w3) := bel_on K2.out hb3
      obtain ⟨-, c1, -, -⟩ := HCL.out _ K3.out
      clear hb3
      by_cases hk0 : k < 0
      · go_wp2_with fail
        go_ret
        exact ⟨by simp, bel_on b0.out K3.out⟩
      · have hk3 : 2 * (D : Int) < k := by omega
        go_wp2_with fail
        go_ret
        exact ⟨by simp, bel_on b0.out K3.out⟩
    · obtain ⟨K, rfl⟩ : ∃ K : Nat, k = (K : Int) := ⟨k.toNat, by omega⟩
      have e1 : thrS s K = (s.th K, 0) := by unfold thrS; rw [if_pos hok, if_neg hr, Int.toNat_natCast]
      obtain ⟨X, hX, hXK, t1, t2, r1, r2, r3, r4⟩ := thr_tails hok hD (show K ≤ 2 * D by omega)
      have u1 := tailS_yes hX (show 1 ≤ D by omega) (by omega) (show K ≤ 2 * D by omega) (show X ≤ K + 1 by omega)
      have u2 := tailS_yes (show s.th K + 1 + 1 = ((X + 1 : Nat) : Int) by omega) (show 1 ≤ D by omega) (by omega) (show K ≤ 2 * D by omega) hXK
      rw [e1] at HTH
      rw [hok] at HVS
      have HCM1 : Hid (∀ W A a B b, Below w.heap.size w W → NR W A a (lowS (divsN D K X) (bin (2 * D) D)).1 → NR W B b (lowS (divsN D K X) (bin (2 * D) D)).2 → Calls Tryz.prog 54 #[.agg #[.slice A (lowS (divsN D K X) (bin (2 * D) D)).1.length a, .slice B (lowS (divsN D K X) (bin (2 * D) D)).2.length b], .agg #[.slice s.A s.x.length s.ca, .slice s.Bd s.y.length s.cb]] W fun e w' => e = .returned (.tuple #[.int .i64 (cmpN (divsN D K X * val s.y) (val s.x * bin (2 * D) D)), .int .i64 0]) ∧ Below W.heap.size W w') := fun W A a B b hW g1 g2 => (CompareFractions_any A a _ B b _ s.A s.ca s.x s.Bd s.cb s.y W rfl rfl rfl rfl g1 g2 (h.hx.below hW) (h.hy.below hW)).mono fun e w' hq => by
        rw [r1] at hq
        exact hq
      have HCM2 : Hid (∀ W A a B b, Below w.heap.size w W → NR W A a (lowS (divsN D K (X + 1)) (bin (2 * D) D)).1 → NR W B b (lowS (divsN D K (X + 1)) (bin (2 * D) D)).2 → Calls Tryz.prog 54 #[.agg #[.slice A (lowS (divsN D K (X + 1)) (bin (2 * D) D)).1.length a, .slice B (lowS (divsN D K (X + 1)) (bin (2 * D) D)).2.length b], .agg #[.slice s.A s.x.length s.ca, .slice s.Bd s.y.length s.cb]] W fun e w' => e = .returned (.tuple #[.int .i64 (cmpN (divsN D K (X + 1) * val s.y) (val s.x * bin (2 * D) D)), .int .i64 0]) ∧ Below W.heap.size W w') := fun W A a B b hW g1 g2 => (CompareFractions_any A a _ B b _ s.A s.ca s.x s.Bd s.cb s.y W rfl rfl rfl rfl g1 g2 (h.hx.below hW) (h.hy.below hW)).mono fun e w' hq => by
        rw [r3] at hq
        exact hq
      obtain ⟨z1, hz1⟩ : ∃ z, cmpN (divsN D K X * val s.y) (val s.x * bin (2 * D) D) = z := ⟨_, rfl⟩
      obtain ⟨z2, hz2⟩ : ∃ z, cmpN (divsN D K (X + 1) * val s.y) (val s.x * bin (2 * D) D) = z := ⟨_, rfl⟩
      rw [hz1] at HCM1 r2
      rw [hz2] at HCM2 r4
      obtain ⟨th, hth⟩ : ∃ q, s.th K = q := ⟨_, rfl⟩
      rw [hth] at HTH t1 t2 u1 u2
      have HT1 : Hid (∀ W, Calls Tryz.prog 55 #[.int .i64 (D : Int), .int .i64 (K : Int), .int .i64 th] W fun e w' => ∃ X x' Z z, e = .returned (.tuple #[.agg #[.slice X (tailS (D : Int) (K : Int) th).1.1.length x', .slice Z (tailS (D : Int) (K : Int) th).1.2.length z], .int .i64 (tailS (D : Int) (K : Int) th).2]) ∧ NR w' X x' (tailS (D : Int) (K : Int) th).1.1 ∧ NR w' Z z (tailS (D : Int) (K : Int) th).1.2 ∧ Below W.heap.size W w') := fun W => (Tail_any (D : Int) (K : Int) th W).mono fun e w' h => frac2_open_ h
      have HT2 : Hid (∀ W, Calls Tryz.prog 55 #[.int .i64 (D : Int), .int .i64 (K : Int), .int .i64 (th + 1)] W fun e w' => ∃ X x' Z z, e = .returned (.tuple #[.agg #[.slice X (tailS (D : Int) (K : Int) (th + 1)).1.1.length x', .slice Z (tailS (D : Int) (K : Int) (th + 1)).1.2.length z], .int .i64 (tailS (D : Int) (K : Int) (th + 1)).2]) ∧ NR w' X x' (tailS (D : Int) (K : Int) (th + 1)).1.1 ∧ NR w' Z z (tailS (D : Int) (K : Int) (th + 1)).1.2 ∧ Below W.heap.size W w') := fun W => (Tail_any (D : Int) (K : Int) (th + 1) W).mono fun e w' h => frac2_open_ h
      rw [u1] at HT1
      rw [u2] at HT2
      dsimp only at HT1 HT2
      have g1 : ¬ ((K : Int) < 0) := by omega
      have g2 : ¬ (2 * (D : Int) < (K : Int)) := by omega
      have g3 : (D : Int) ≤ 64 := by omega
      have g4 : (K : Int) ≤ 128 := by omega
      have g5 : th ≤ 128 := by omega
      generalize (lowS (divsN D K X) (bin (2 * D) D)) = l1 at *
      generalize (lowS (divsN D K (X + 1)) (bin (2 * D) D)) = l2 at *
      obtain ⟨l1a, l1b⟩ := l1
      obtain ⟨l2a, l2b⟩ := l2
      dsimp only at *
      generalize l1a.length = n1a at *
      generalize l1b.length = n1b at *
      generalize l2a.length = n2a at *
      generalize l2b.length = n2b at *
      generalize s.x.length = lx at *
      generalize s.y.length = ly at *
      generalize s.cs.toArray = cs at *
      clear hok hW0 h h0 hk q1 q2 q3 q4 hr hX hXK r1 r3 u1 u2 hz1 hz2 hth e1
      go_enter Tryz.func10, Tryz.ntmps10
      go_wp2_with (rw [← HW0.out])
      refine (alive_any _).mono ?_
      rintro e w1 ⟨rfl, hb1⟩
      have K1 : Hid (Below w.heap.size w w1) := hb1
      have X1 := Lib.hid (HX.out _ K1.out)
      clear hb1
      go_wp2_with (refine wpList_load_row rfl 29 (.tmp 2) rfl w0.heap.size rfl 29 cs (0, 0) _ X1.out Tryz.underlying29 rfl HIN.out ?_)
      refine (HTH.out _ K1.out).mono ?_
      rintro e w2 ⟨rfl, hb2⟩
      have K2' : Hid (Below w.heap.size w w2) := bel_on K1.out hb2
      have X2 := Lib.hid (HX.out _ K2'.out)
      clear hb2
      go_wp2_with (refine wpList_load_row rfl 29 (.tmp 2) rfl w0.heap.size rfl 29 cs (0, 0) _ X2.out Tryz.underlying29 rfl HIN.out ?_)
      refine (HVS.out _ K2'.out).mono ?_
      rintro e w2b ⟨rfl, hb2⟩
      have K2 : Hid (Below w.heap.size w w2b) := bel_on K2'.out hb2
      obtain ⟨-, c1, -, -⟩ := HCL.out _ K2.out
      clear hb2
      go_wp2_with fail
      clear c1
      refine (HT1.out _).mono ?_
      rintro e w3 ⟨X3, x3, Z3, z3, rfl, gx3, gz3, hb3⟩
      obtain ⟨w3b, hw3⟩ : ∃ W, W = w3.alloc (.cells #[.slice X3 n1a x3, .slice Z3 n1b z3] 27) := ⟨_, rfl⟩
      have d3 : Below w3.heap.size w3 w3b := by rw [hw3]; exact alloc_bel _ _
      have hbb3 := bel_on hb3 d3
      have K3 : Hid (Below w.heap.size w w3b) := bel_on K2.out hbb3
      have T3 : Hid (Blk w3b w3.heap.size 27 #[.slice X3 n1a x3, .slice Z3 n1b z3]) := by unfold Hid; rw [hw3]; exact Blk.new _ _ _
      have GX3 := Lib.hid (gx3.below d3)
      have GZ3 := Lib.hid (gz3.below d3)
      have HW3 := Lib.hid hw3
      clear hw3 d3 hbb3 hb3 gx3 gz3
      have q0 := T3.out.cell 0
      have q1 := T3.out.cell 1
      obtain ⟨c0, c1, c18, c19⟩ := HCL.out _ K3.out
      go_wp2_with (rw [← HW3.out])
      refine (HCM1.out _ _ _ _ _ K3.out GX3.out GZ3.out).mono ?_
      rintro e w4 ⟨rfl, hb4⟩
      have K4 : Hid (Below w.heap.size w w4) := bel_on K3.out hb4
      clear hb4 q0 q1 c0 c1 c18 c19
      obtain ⟨-, c1, -, -⟩ := HCL.out _ K4.out
      go_wp2_with fail
      clear c1
      refine (HT2.out _).mono ?_
      rintro e w5 ⟨X5, x5, Z5, z5, rfl, gx5, gz5, hb5⟩
      obtain ⟨w5b, hw5⟩ : ∃ W, W = w5.alloc (.cells #[.slice X5 n2a x5, .slice Z5 n2b z5] 27) := ⟨_, rfl⟩
      have d5 : Below w5.heap.size w5 w5b := by rw [hw5]; exact alloc_bel _ _
      have hbb5 := bel_on hb5 d5
      have K5 : Hid (Below w.heap.size w w5b) := bel_on K4.out hbb5
      have T5 : Hid (Blk w5b w5.heap.size 27 #[.slice X5 n2a x5, .slice Z5 n2b z5]) := by unfold Hid; rw [hw5]; exact Blk.new _ _ _
      have GX5 := Lib.hid (gx5.below d5)
      have GZ5 := Lib.hid (gz5.below d5)
      have HW5 := Lib.hid hw5
      clear hw5 d5 hbb5 hb5 gx5 gz5
      have q0 := T5.out.cell 0
      have q1 := T5.out.cell 1
      obtain ⟨c0, c1, c18, c19⟩ := HCL.out _ K5.out
      go_wp2_with (rw [← HW5.out])
      refine (HCM2.out _ _ _ _ _ K5.out GX5.out GZ5.out).mono ?_
      rintro e w6 ⟨rfl, hb6⟩
      have K6 : Hid (Below w.heap.size w w6) := bel_on K5.out hb6
      clear hb6 q0 q1 c0 c1 c18 c19
      go_wp2_with fail
      go_ret
      exact ⟨by simp, bel_on b0.out K6.out⟩
  · have hok2 : s.ok = false := by simpa using hok
    have e1 : thrS s k = (0, 70) := by unfold thrS; rw [if_neg hok]
    rw [e1] at HTH
    rw [hok2] at HVS
    generalize s.cs.toArray = cs at *
    clear hok hok2 hW0 h h0 hk
    go_enter Tryz.func10, Tryz.ntmps10
    go_wp2_with (rw [← HW0.out])
    refine (alive_any _).mono ?_
    rintro e w1 ⟨rfl, hb1⟩
    have K1 : Hid (Below w.heap.size w w1) := hb1
    have X1 := Lib.hid (HX.out _ K1.out)
    clear hb1
    go_wp2_with (refine wpList_load_row rfl 29 (.tmp 2) rfl w0.heap.size rfl 29 cs (0, 0) _ X1.out Tryz.underlying29 rfl HIN.out ?_)
    refine (HTH.out _ K1.out).mono ?_
    rintro e w2 ⟨rfl, hb2⟩
    have K2 : Hid (Below w.heap.size w w2) := bel_on K1.out hb2
    have X2 := Lib.hid (HX.out _ K2.out)
    clear hb2
    go_wp2_with (refine wpList_load_row rfl 29 (.tmp 2) rfl w0.heap.size rfl 29 cs (0, 0) _ X2.out Tryz.underlying29 rfl HIN.out ?_)
    refine (HVS.out _ K2.out).mono ?_
    rintro e w3 ⟨rfl, hb3⟩
    have K3 : Hid (Below w.heap.size w w3) := bel_on K2.out hb3
    clear hb3
    go_wp2_with fail
    go_ret
    exact ⟨by simp, bel_on b0.out K3.out⟩
theorem codeThreshold_walk (s : StV) (k : Int) (w : World) (h : StOK w s) (h1 : -9223372036854775808 ≤ k) (h2 : k ≤ 9223372036854775807) :
    Calls Tryz.prog 10 #[.agg s.cs.toArray, .int .i64 k] w fun e w' => e = .returned (.bool true) ∧ Below w.heap.size w w' := codeThreshold_walk0 s k w h h1 h2
end Go.Proofs.YtenpkmgbaajeeaaGreat

/- Divisions counted one by one, in plain words. -/
namespace Go.Proofs.YtenpkmgbaajeeaaGreat
set_option linter.unusedVariables false

/-- How many bits of a number are 1. -/
def onesN (h : Nat) : Nat := stat oneW 64 h
theorem stat_above {w : Nat → Bool → Nat} (hw : ∀ i, w i false = 0) {n h : Nat} (hh : h < 2 ^ n) (m : Nat) : stat w (n + m) h = stat w n h := by
  unfold stat
  rw [sumN_split, sumN_zero (f := fun i => w (n + i) (h.testBit (n + i))) (fun i _ => by
    have : h < 2 ^ (n + i) := Nat.lt_of_lt_of_le hh (Nat.pow_le_pow_right (by omega) (by omega))
    rw [Nat.testBit_lt_two_pow this, hw]), Nat.add_zero]
theorem onesN_low {n h : Nat} (hh : h < 2 ^ n) (hn : n ≤ 64) : onesN h = stat oneW n h := by
  unfold onesN
  obtain ⟨m, hm⟩ : ∃ m, n + m = 64 := ⟨64 - n, by omega⟩
  rw [← hm, stat_above (fun i => rfl) hh]
theorem onesN_and {n h k : Nat} (hh : h < 2 ^ n) (hn : n ≤ 64) : onesN (h &&& k) = stat (markW fun i => k.testBit i) n h := by
  rw [onesN_low (n := n) (Nat.lt_of_le_of_lt Nat.and_le_left hh) hn]
  unfold stat
  refine sumN_congr fun i _ => ?_
  simp only [oneW, markW, Nat.testBit_and, Bool.and_eq_true]
theorem onesN_mark {n k : Nat} (hk : k < 2 ^ n) (hn : n ≤ 64) : onesN k = markN (fun i => k.testBit i) n := by
  rw [onesN_low hk hn]; rfl
/-- All divisions, and those that name an innocent user. -/
theorem divisions_all {d : Nat} (hd : 2 * d ≤ 64) : cnt (fun h => decide (onesN h = d)) (2 ^ (2 * d)) = bin (2 * d) d := by
  rw [← one_count (2 * d) d]
  exact cnt_congr fun i hi => by rw [onesN_low hi hd]
theorem divisions_named {d k : Nat} (hd : 2 * d ≤ 64) (hk : k < 2 ^ (2 * d)) (x : Nat) : cnt (fun h => decide (onesN h = d ∧ onesN (h &&& k) < x)) (2 ^ (2 * d)) = divsN d (onesN k) x := by
  unfold divsN
  rw [onesN_mark hk hd, ← mark_upto]
  exact cnt_congr fun i hi => by rw [onesN_low hi hd, onesN_and hi hd]
theorem onesN_le {n k : Nat} (hk : k < 2 ^ n) (hn : n ≤ 64) : onesN k ≤ n := by rw [onesN_mark hk hn]; exact markN_le _ _
end Go.Proofs.YtenpkmgbaajeeaaGreat

/- How many bits of a number are 1. -/
namespace Go.Proofs.YtenpkmgbaajeeaaGreat
open Go.RowKit
set_option linter.unusedVariables false
set_option linter.unusedSimpArgs false

theorem and_u64 {a b : Nat} (ha : a < 2 ^ 64) (hb : b < 2 ^ 64) : bits BinOp.and IntKind.u64 (a : Int) (b : Int) = ((a &&& b : Nat) : Int) := by
  have e : ∀ n : Nat, n < 2 ^ 64 → (BitVec.ofInt 64 (n : Int)).toNat = n := fun n hn => by
    rw [BitVec.ofInt_natCast, BitVec.toNat_ofNat, Nat.mod_eq_of_lt hn]
  show IntKind.u64.wrap (((BitVec.ofInt 64 (a : Int)) &&& (BitVec.ofInt 64 (b : Int))).toNat : Int) = _
  rw [BitVec.toNat_and, e a ha, e b hb, IntKind.wrap_u64]
  have := Nat.lt_of_le_of_lt (Nat.and_le_left (n := a) (m := b)) ha
  omega
theorem stat_step (n i : Nat) : stat oneW (i + 1) n = stat oneW i n + n / 2 ^ i % 2 := by
  unfold stat
  rw [sumN_succ]
  congr 1
  unfold oneW
  rw [Nat.testBit_eq_decide_div_mod_eq]
  by_cases h : n / 2 ^ i % 2 = 1
  · rw [if_pos (by simpa using h), h]
  · rw [if_neg (by simpa using h)]; omega
theorem stat_le (n : Nat) : ∀ i, stat oneW i n ≤ i
  | 0 => Nat.le_refl _
  | i + 1 => by
    rw [stat_step]
    have := stat_le n i
    omega
set_option maxHeartbeats 2000000 in
set_option maxRecDepth 100000 in
theorem ones_any (n : Nat) (w : World) (h : n < 2 ^ 64) :
    Calls Tryz.prog 51 #[.int .u64 (n : Int)] w fun e w' => e = .returned (.int .i64 (onesN n : Int)) ∧ w = w' := by
  have HN := Lib.hid h
  have HE : Hid (stat oneW 64 n = onesN n) := rfl
  clear h
  go_enter Tryz.func51, Tryz.ntmps51
  go_wp2_with fail
  go_loopw [3, 4] (fun vs vi wr => ∃ i : Nat, i ≤ 64 ∧ vi = .int .i64 (i : Int) ∧ vs = .int .i64 (stat oneW i n : Int) ∧ w = wr) (fun _ vi _ => 64 - (intOf vi).toNat)
  case atStart => exact ⟨0, by omega, rfl, rfl, rfl⟩
  case round =>
    obtain ⟨i, hi, rfl, rfl, rfl⟩ := hrel
    by_cases hin : i < 64
    · have hii : (i : Int) < 64 := by omega
      have hi0 : (0 : Int) ≤ i := by omega
      obtain ⟨q, hq⟩ : ∃ q, n / 2 ^ i = q := ⟨_, rfl⟩
      have hshr : (n : Int) / (2 : Int) ^ i = (q : Int) := by rw [← hq, Int.natCast_ediv]; simp
      have hql : q < 2 ^ 64 := by rw [← hq]; exact Nat.lt_of_le_of_lt (Nat.div_le_self _ _) HN.out
      have hand : bits BinOp.and IntKind.u64 (q : Int) 1 = ((q % 2 : Nat) : Int) := by
        have := and_u64 (a := q) (b := 1) hql (by decide)
        rw [Nat.and_one_is_mod] at this
        exact this
      obtain ⟨bb, hbb⟩ : ∃ bb, q % 2 = bb := ⟨_, rfl⟩
      have hb2 : bb < 2 := by rw [← hbb]; exact Nat.mod_lt _ (by omega)
      rw [hbb] at hand
      have hst := stat_step n i
      have hle := stat_le n i
      rw [hq, hbb] at hst
      have HST := Lib.hid hst
      obtain ⟨s, hs⟩ : ∃ s, stat oneW i n = s := ⟨_, rfl⟩
      rw [hs] at HST hle ⊢
      have hcv : IntKind.i64.wrap (bb : Int) = (bb : Int) := by rw [IntKind.wrap_i64]; omega
      clear hst hs hq hbb hql hin
      go_wp2_with fail
      go_roundw
      case rel => exact ⟨i + 1, by omega, by go_num, by rw [HST.out]; rfl, trivial⟩
      case measure => simp [intOf]; omega
    · obtain rfl : i = 64 := by omega
      have hx : ¬ ((64 : Int) < 64) := by omega
      rw [HE.out]
      go_wp2_with fail
      go_ret
      exact ⟨rfl, rfl⟩
end Go.Proofs.YtenpkmgbaajeeaaGreat

/- The law CodeInnocent: the walk. -/
namespace Go.Proofs.YtenpkmgbaajeeaaGreat
open Go.RowKit
set_option linter.unusedVariables false
set_option linter.unusedSimpArgs false

def allP (d : Nat) (h : Nat) : Bool := decide (onesN h = d)
def namP (d M X : Nat) (h : Nat) : Bool := decide (onesN h = d ∧ onesN (h &&& M) < X)
theorem cnt_succ (P : Nat → Bool) (n : Nat) : cnt P (n + 1) = cnt P n + if P n = true then 1 else 0 := sumN_succ _ n
theorem cnt_le (P : Nat → Bool) : ∀ n, cnt P n ≤ n
  | 0 => Nat.le_refl _
  | n + 1 => by
    have := cnt_le P n
    rw [cnt_succ]
    split <;> omega
theorem cnt_all (D m : Nat) : cnt (allP D) (m + 1) = cnt (allP D) m + if onesN m = D then 1 else 0 := by
  rw [cnt_succ]; congr 1; simp only [allP, decide_eq_true_eq]
theorem cnt_nam (D M X m : Nat) : cnt (namP D M X) (m + 1) = cnt (namP D M X) m + if onesN m = D ∧ onesN (m &&& M) < X then 1 else 0 := by
  rw [cnt_succ]; congr 1; simp only [namP, decide_eq_true_eq]
set_option maxHeartbeats 16000000 in
set_option maxRecDepth 100000 in
theorem codeInnocent_walk0 (s : StV) (a : Nat) (w0 : World) (h0 : StOK w0 s) (ha : a < 18446744073709551616) :
    Calls Tryz.prog 9 #[.agg s.cs.toArray, .int .u64 (a : Int)] w0 fun e w' => e = .returned (.bool true) ∧ Below w0.heap.size w0 w' := by
  have hk := h0.k16
  obtain ⟨w, hW0⟩ : ∃ W : World, W = w0.alloc (.cells s.cs.toArray 29) := ⟨_, rfl⟩
  have b0 : Hid (Below w0.heap.size w0 w) := by unfold Hid; rw [hW0]; exact alloc_bel _ _
  have HX : Hid (∀ W, Below w.heap.size w W → Blk W w0.heap.size 29 s.cs.toArray) := fun W hW => Blk.below' (by rw [hW0]; exact Blk.new w0 _ _) hW
  have h := h0.below b0.out
  have HW0 := Lib.hid hW0
  have HIN := Lib.hid (StV.info (s := s) hk)
  have K0 : Hid (Below w.heap.size w w) := Below.refl _ _
  have HVS : Hid (∀ W, Below w.heap.size w W → Calls Tryz.prog 43 #[.agg s.cs.toArray] W fun e w' => e = .returned (.bool s.ok) ∧ Below W.heap.size W w') := fun W hW => refValidSteps_any s W (h.below hW)
  by_cases hok : s.ok = true
  · obtain ⟨⟨q1, q2, q3, q4⟩, hl⟩ := StV.parts hok
    obtain ⟨D, hD⟩ : ∃ D : Nat, s.b = (D : Int) := ⟨s.b.toNat, by omega⟩
    have HCL : Hid (∀ W, Below w.heap.size w W → W.cell? ⟨w0.heap.size, 0, none⟩ = some (.int .i64 s.u) ∧ W.cell? ⟨w0.heap.size, 1, none⟩ = some (.int .i64 (D : Int)) ∧ W.cell? ⟨w0.heap.size, 18, none⟩ = some (.slice s.A s.x.length s.ca) ∧ W.cell? ⟨w0.heap.size, 19, none⟩ = some (.slice s.Bd s.y.length s.cb)) := fun W hW => by
        have := StV.cells hk (HX.out W hW)
        rw [hD] at this
        exact this
    rw [hok] at HVS
    by_cases hD5 : 5 < D
    · have h5i : (5 : Int) < D := by omega
      generalize s.cs.toArray = cs at *
      generalize s.x.length = lx at *
      generalize s.y.length = ly at *
      clear hok hW0 h h0 hk q1 q2 q3 q4 hl ha hD5
      go_enter Tryz.func9, Tryz.ntmps9
      go_wp2_with (rw [← HW0.out])
      refine (alive_any _).mono ?_
      rintro e w1 ⟨rfl, hb1⟩
      have K1 : Hid (Below w.heap.size w w1) := bel_on K0.out hb1
      clear hb1
      go_wp2_with (refine wpList_load_row rfl 29 (.tmp 2) rfl w0.heap.size rfl 29 cs (0, 0) _ (HX.out _ K1.out) Tryz.underlying29 rfl HIN.out ?_)
      refine (HVS.out _ K1.out).mono ?_
      rintro e w2 ⟨rfl, hb2⟩
      have K2 : Hid (Below w.heap.size w w2) := bel_on K1.out hb2
      obtain ⟨c0, c1, c18, c19⟩ := HCL.out _ K2.out
      clear hb2
      go_wp2_with fail
      go_ret
      exact ⟨by simp, bel_on b0.out K2.out⟩
    · have h5i : (D : Int) ≤ 5 := by omega
      have hd1 : (1 : Int) ≤ D := by omega
      obtain ⟨n, hn⟩ : ∃ n, 2 * D = n := ⟨_, rfl⟩
      obtain ⟨N, hN⟩ : ∃ N, 2 ^ n = N := ⟨_, rfl⟩
      have hN1 : N ≤ 1024 := by
        rw [← hN]
        exact Nat.pow_le_pow_right (n := 2) (by omega) (show n ≤ 10 by omega)
      have hN0 : 0 < N := by rw [← hN]; exact Nat.pow_pos (by omega)
      obtain ⟨M, hM⟩ : ∃ M, a % N = M := ⟨_, rfl⟩
      have hMN : M < N := by rw [← hM]; exact Nat.mod_lt _ hN0
      have hKn : onesN M ≤ n := onesN_le (by rw [hN]; exact hMN) (by omega)
      obtain ⟨X, hX, hXK, t1, t2, r1, r2, -, -⟩ := thr_tails hok hD (show onesN M ≤ 2 * D by omega)
      have e1 : thrS s (onesN M : Int) = (s.th (onesN M), 0) := by unfold thrS; rw [if_pos hok, if_neg (by omega), Int.toNat_natCast]
      have u1 := tailS_yes hX (show 1 ≤ D by omega) (by omega) (show onesN M ≤ 2 * D by omega) (show X ≤ onesN M + 1 by omega)
      have hAL : cnt (allP D) N = bin (2 * D) D := by rw [← hN, ← hn]; exact divisions_all (by omega)
      have hNM : cnt (namP D M X) N = divsN D (onesN M) X := by rw [← hN, ← hn]; exact divisions_named (by omega) (by rw [hn, hN]; exact hMN) X
      have hb0 : bin (2 * D) D ≠ 0 := bin_ne D
      have hs1 : Sm (divsN D (onesN M) X) := divs_sm (by omega) (by omega) (by omega)
      have hs2 : Sm (bin (2 * D) D) := bin_sm (by omega)
      have hc1 := cnt_le (allP D) N
      have hc2 := cnt_le (namP D M X) N
      rw [← hAL] at r1 r2 u1 hb0 hs2
      rw [← hNM] at r1 r2 u1 hs1
      obtain ⟨AL, hAE⟩ : ∃ q, cnt (allP D) N = q := ⟨_, rfl⟩
      obtain ⟨NM, hNE⟩ : ∃ q, cnt (namP D M X) N = q := ⟨_, rfl⟩
      rw [hAE] at r1 r2 u1 hb0 hs2 hc1
      rw [hNE] at r1 r2 u1 hs1 hc2
      have HAE := Lib.hid hAE
      have HNE := Lib.hid hNE
      obtain ⟨K, hK⟩ : ∃ q, onesN M = q := ⟨_, rfl⟩
      rw [hK] at u1 e1 hX hXK t1 t2 hKn
      obtain ⟨th, hth⟩ : ∃ q, s.th K = q := ⟨_, rfl⟩
      rw [hth] at u1 e1 hX t1 t2
      have HTH : Hid (∀ W, Below w.heap.size w W → Calls Tryz.prog 50 #[.agg s.cs.toArray, .int .i64 (K : Int)] W fun e w' => e = .returned (.tuple #[.int .i64 th, .int .i64 0]) ∧ Below W.heap.size W w') := fun W hW => by
        have := Threshold_any s (K : Int) W (h.below hW)
        rw [e1] at this
        exact this
      have HOM : Hid (∀ W, Calls Tryz.prog 51 #[.int .u64 (M : Int)] W fun e w' => e = .returned (.int .i64 (K : Int)) ∧ W = w') := fun W => by rw [← hK]; exact ones_any M W (by omega)
      have HON : Hid (∀ m W, m < N → Calls Tryz.prog 51 #[.int .u64 (m : Int)] W fun e w' => e = .returned (.int .i64 (onesN m : Int)) ∧ W = w') := fun m W hm => ones_any m W (by omega)
      have HOB : Hid (∀ m, m < N → onesN m ≤ 64) := fun m hm => onesN_le (n := 64) (by omega) (Nat.le_refl _)
      have HAND : Hid (∀ m, m < N → bits BinOp.and IntKind.u64 (m : Int) (M : Int) = ((m &&& M : Nat) : Int) ∧ m &&& M < N) := fun m hm => ⟨and_u64 (by omega) (by omega), Nat.lt_of_le_of_lt Nat.and_le_left hm⟩
      have HOA : Hid (∀ W, Calls Tryz.prog 53 #[.int .u64 (AL : Int)] W fun e w' => (∃ A c, e = .returned (.slice A (digs AL).length c) ∧ NR w' A c (digs AL)) ∧ Below W.heap.size W w') := fun W => refOfB_any AL W (by omega)
      have HOX : Hid (∀ W, Calls Tryz.prog 53 #[.int .u64 (NM : Int)] W fun e w' => (∃ A c, e = .returned (.slice A (digs NM).length c) ∧ NR w' A c (digs NM)) ∧ Below W.heap.size W w') := fun W => refOfB_any NM W (by omega)
      have HRT : Hid (∀ R r T t W, NR W R r (digs NM) → NR W T t (digs AL) → Calls Tryz.prog 52 #[.slice R (digs NM).length r, .slice T (digs AL).length t] W fun e w' => ∃ X x' Z z, e = .returned (.tuple #[.agg #[.slice X (lowS NM AL).1.length x', .slice Z (lowS NM AL).2.length z], .int .i64 0]) ∧ NR w' X x' (lowS NM AL).1 ∧ NR w' Z z (lowS NM AL).2 ∧ Below W.heap.size W w') := fun R r T t W g1 g2 => (ratioD_any hs1 hs2 hb0 rfl rfl g1 g2).mono fun e w' ⟨v, he, Xa, xc, Yf, yd, hv, hXX, hYY, _, hbf⟩ => ⟨Xa, xc, Yf, yd, by rw [he, hv], hXX.1, hYY.1, hbf⟩
      have HTL : Hid (∀ W, Calls Tryz.prog 55 #[.int .i64 (D : Int), .int .i64 (K : Int), .int .i64 th] W fun e w' => ∃ X x' Z z, e = .returned (.tuple #[.agg #[.slice X (lowS NM AL).1.length x', .slice Z (lowS NM AL).2.length z], .int .i64 0]) ∧ NF W.heap.size w' X x' (lowS NM AL).1 ∧ NF W.heap.size w' Z z (lowS NM AL).2 ∧ Below W.heap.size W w') := fun W => (Tail_any (D : Int) (K : Int) th W).mono fun e w' hq => by
        rw [u1] at hq
        obtain ⟨v, rfl, X, x, Z, z, rfl, h1, h2, _, hb⟩ := hq
        exact ⟨X, x, Z, z, rfl, h1, h2, hb⟩
      have HCM : Hid (∀ W A a B b, Below w.heap.size w W → NR W A a (lowS NM AL).1 → NR W B b (lowS NM AL).2 → Calls Tryz.prog 54 #[.agg #[.slice A (lowS NM AL).1.length a, .slice B (lowS NM AL).2.length b], .agg #[.slice s.A s.x.length s.ca, .slice s.Bd s.y.length s.cb]] W fun e w' => e = .returned (.tuple #[.int .i64 (cmpN (NM * val s.y) (val s.x * AL)), .int .i64 0]) ∧ Below W.heap.size W w') := fun W A a B b hW g1 g2 => (CompareFractions_any A a _ B b _ s.A s.ca s.x s.Bd s.cb s.y W rfl rfl rfl rfl g1 g2 (h.hx.below hW) (h.hy.below hW)).mono fun e w' hq => by
        rw [r1] at hq
        exact hq
      obtain ⟨z1, hz1⟩ : ∃ z, cmpN (NM * val s.y) (val s.x * AL) = z := ⟨_, rfl⟩
      rw [hz1] at HCM r2
      have HIS : Hid (∀ X cx Z cz W, NR W X cx (lowS NM AL).1 → NR W Z cz (lowS NM AL).2 → Calls Tryz.prog 48 #[.agg #[.slice X (lowS NM AL).1.length cx, .slice Z (lowS NM AL).2.length cz], .int .i64 0, .int .u64 (NM : Int), .int .u64 (AL : Int)] W fun e w' => e = .returned (.bool true) ∧ Below W.heap.size W w') := fun X cx Z cz W g1 g2 => by
        have := is_any X cx _ Z cz _ 0 NM AL W rfl rfl g1 g2 (by omega) (by omega) hb0
        rw [show isB (lowS NM AL).1 (lowS NM AL).2 0 NM AL = true from by unfold isB; rw [sameB_self, sameB_self]; rfl] at this
        exact this
      have hni : (n : Int) ≤ 10 := by omega
      have hn0 : (0 : Int) ≤ n := by omega
      have hn2 : 2 * (D : Int) = (n : Int) := by omega
      have hNi : (N : Int) ≤ 1024 := by omega
      have hsh0 : (2 : Int) ^ n = (N : Int) := by rw [← hN]; simp
      have hsh : IntKind.u64.wrap ((2 : Int) ^ n) = (N : Int) := by rw [hsh0, IntKind.wrap_u64]; omega
      have hNz : (N : Int) ≠ 0 := by omega
      have hNz' : ¬ N = 0 := by omega
      have hNz2 : ((N : Int) == 0) = false := by simp; omega
      have hmod : (a : Int).tmod (N : Int) = (M : Int) := by rw [← hM]; rfl
      have hmod2 : (a : Int) % (N : Int) = (M : Int) := by rw [← hM]; rfl
      have hai : (a : Int) ≤ 18446744073709551615 := by omega
      have ht1 : -1 ≤ th := by omega
      have ht2 : th ≤ 10 := by omega
      have HX1 := Lib.hid hX
      have HXB : Hid (∀ W, Below w.heap.size w W → W.rangeAt w0.heap.size 0 s.cs) := fun W hW => (HX.out W hW).range
      generalize (lowS NM AL) = l1 at *
      obtain ⟨l1a, l1b⟩ := l1
      dsimp only at *
      generalize l1a.length = n1a at *
      generalize l1b.length = n1b at *
      generalize (digs NM).length = dn at *
      generalize (digs AL).length = da at *
      generalize digs NM = DN at *
      generalize digs AL = DA at *
      generalize s.x.length = lx at *
      generalize s.y.length = ly at *
      clear hn hD hN hMN hsh0 hM hKn hXK t1 t2 r1 e1 u1 hAL hNM hb0 hs1 hs2 hc1 hc2 hAE hNE hth hK hz1 hX hok hW0 h h0 hk q1 q2 q3 q4 hl ha hD5 hN1 hN0
      have HINL : Hid ((Tryz.prog.info? 29).map (·.size) = some s.cs.length) := HIN.out
      generalize s.cs = cs at *
      go_enter Tryz.func9, Tryz.ntmps9
      go_wp2_with (rw [← HW0.out])
      refine (alive_any _).mono ?_
      rintro e w1 ⟨rfl, hb1⟩
      have K1 : Hid (Below w.heap.size w w1) := bel_on K0.out hb1
      clear hb1
      go_wp2_with (refine wpList_load_row rfl 29 (.tmp 2) rfl w0.heap.size rfl 29 cs.toArray (0, 0) _ (HX.out _ K1.out) Tryz.underlying29 rfl HIN.out ?_)
      refine (HVS.out _ K1.out).mono ?_
      rintro e w2 ⟨rfl, hb2⟩
      have K2 : Hid (Below w.heap.size w w2) := bel_on K1.out hb2
      obtain ⟨c0, c1, c18, c19⟩ := HCL.out _ K2.out
      clear hb2
      go_wp2_with fail
      refine wp_region_noPanic ?_
      obtain ⟨v0, hv0⟩ : ∃ W, W = w2.drew := ⟨_, rfl⟩
      have k0 : Below w.heap.size w v0 := by rw [hv0]; exact K2.out.drew
      refine wp_region_held_drew (S := fun W => W.rangeAt w0.heap.size 0 cs) (by kernel_rfl) (by rw [← hv0]; exact HXB.out _ k0) (fun hS0 => ?_)
      rw [← hv0] at hS0 ⊢
      clear hv0 c0 c1 c18 c19
      refine hd_load 0 w0.heap.size 0 cs 29 (.tmp 2) rfl rfl rfl (by kernel_rfl) (by kernel_rfl) (by kernel_rfl) (fun _ _ _ h => h) rfl (fun w h => h) Tryz.underlying29 rfl HINL.out hS0 ?_
      refine hd_take 1 (.int .u64 (M : Int)) rfl rfl (by kernel_rfl) (by kernel_rfl) (by kernel_rfl) (fun _ _ _ h => h) (fun w hw => by go_simp) hS0 ?_
      simp only [List.getElem_toArray, List.getElem_cons_succ, List.getElem_cons_zero, Act.put, List.setIfInBounds_toArray, List.set_cons_zero, List.set_cons_succ]
      refine hd_calls 2 51 #[.int .u64 (M : Int)] rfl rfl (by kernel_rfl) (by go_simp) ((HOM.out v0).mono ?_)
      rintro e v1 ⟨rfl, rfl⟩
      refine ⟨_, rfl, hS0, ?_⟩
      simp only [List.getElem_toArray, List.getElem_cons_succ, List.getElem_cons_zero, Act.put, List.setIfInBounds_toArray, List.set_cons_zero, List.set_cons_succ]
      refine hd_calls 3 50 #[.agg cs.toArray, .int .i64 (K : Int)] rfl rfl (by kernel_rfl) (by go_simp) ((HTH.out v0 k0).mono ?_)
      rintro e w3 ⟨rfl, hb3⟩
      have K3 : Hid (Below w.heap.size w w3) := bel_on k0 hb3
      have hS1 := HXB.out _ K3.out
      refine ⟨_, rfl, hS1, ?_⟩
      simp only [List.getElem_toArray, List.getElem_cons_succ, List.getElem_cons_zero, Act.put, List.setIfInBounds_toArray, List.set_cons_zero, List.set_cons_succ]
      refine hd_take 4 (.tuple #[.int .i64 th, .int .i64 0]) rfl rfl (by kernel_rfl) (by kernel_rfl) (by kernel_rfl) (fun _ _ _ h => h) (fun w hw => by go_simp) hS1 ?_
      simp only [List.getElem_toArray, List.getElem_cons_succ, List.getElem_cons_zero, Act.put, List.setIfInBounds_toArray, List.set_cons_zero, List.set_cons_succ]
      refine hd_take 5 (.int .i64 th) rfl rfl (by kernel_rfl) (by kernel_rfl) (by kernel_rfl) (fun _ _ _ h => h) (fun w hw => by go_simp) hS1 ?_
      refine hd_take 6 (.int .i64 0) rfl rfl (by kernel_rfl) (by kernel_rfl) (by kernel_rfl) (fun _ _ _ h => h) (fun w hw => by go_simp) hS1 ?_
      simp only [List.getElem_toArray, List.getElem_cons_succ, List.getElem_cons_zero, Act.put, List.setIfInBounds_toArray, List.set_cons_zero, List.set_cons_succ]
      refine hd_take 7 (.int .i64 th) rfl rfl (by kernel_rfl) (by kernel_rfl) (by kernel_rfl) (fun _ _ _ h => h) (fun w hw => by go_simp) hS1 ?_
      refine hd_take 8 (.int .i64 0) rfl rfl (by kernel_rfl) (by kernel_rfl) (by kernel_rfl) (fun _ _ _ h => h) (fun w hw => by go_simp) hS1 ?_
      simp only [List.getElem_toArray, List.getElem_cons_succ, List.getElem_cons_zero, Act.put, List.setIfInBounds_toArray, List.set_cons_zero, List.set_cons_succ]
      refine wpAnyH_done (by kernel_rfl) (NoPanic.normal ?_) _
      clear hS0 hS1 hb3 k0
      go_wp2_with fail
      go_loopw [9, 10, 11] (fun va vn vf wr => ∃ m : Nat, m ≤ N ∧ vf = .int .u64 (m : Int) ∧ va = .int .u64 (cnt (allP D) m : Int) ∧ vn = .int .u64 (cnt (namP D M X) m : Int) ∧ Below w.heap.size w wr) (fun _ _ vf _ => N - (intOf vf).toNat)
      case atStart => exact ⟨0, by omega, rfl, rfl, rfl, K3.out⟩
      case round =>
        obtain ⟨m, hm, rfl, rfl, rfl, hbel⟩ := hrel
        by_cases hmn : m < N
        · have hmi : (m : Int) < N := by omega
          have hm0 : (0 : Int) ≤ m := by omega
          have HO1 : Hid (∀ W, Calls Tryz.prog 51 #[.int .u64 (m : Int)] W fun e w' => e = .returned (.int .i64 (onesN m : Int)) ∧ W = w') := fun W => HON.out m W hmn
          obtain ⟨hand, hq⟩ := HAND.out m hmn
          have HO2 : Hid (∀ W, Calls Tryz.prog 51 #[.int .u64 ((m &&& M : Nat) : Int)] W fun e w' => e = .returned (.int .i64 (onesN (m &&& M) : Int)) ∧ W = w') := fun W => HON.out _ W hq
          have hob1 := HOB.out m hmn
          have hob2 := HOB.out _ hq
          have hs1 := cnt_all D m
          have hs2 := cnt_nam D M X m
          have hcl1 := cnt_le (allP D) m
          have hcl2 := cnt_le (namP D M X) m
          obtain ⟨qq, hqq⟩ : ∃ q, m &&& M = q := ⟨_, rfl⟩
          rw [hqq] at hand HO2 hob2 hs2
          obtain ⟨o1, ho1⟩ : ∃ q, onesN m = q := ⟨_, rfl⟩
          obtain ⟨o2, ho2⟩ : ∃ q, onesN qq = q := ⟨_, rfl⟩
          rw [ho1] at HO1 hob1 hs1 hs2
          rw [ho2] at HO2 hob2 hs2
          have HS1 := Lib.hid hs1
          have HS2 := Lib.hid hs2
          obtain ⟨x1, hx1⟩ : ∃ q, cnt (allP D) m = q := ⟨_, rfl⟩
          obtain ⟨x2, hx2⟩ : ∃ q, cnt (namP D M X) m = q := ⟨_, rfl⟩
          rw [hx1] at HS1 hcl1 ⊢
          rw [hx2] at HS2 hcl2 ⊢
          have hx1i : (x1 : Int) ≤ 1024 := by omega
          have hx2i : (x2 : Int) ≤ 1024 := by omega
          have ho1i : (o1 : Int) ≤ 64 := by omega
          have ho2i : (o2 : Int) ≤ 64 := by omega
          obtain ⟨-, c1, -, -⟩ := HCL.out _ hbel
          clear hs1 hs2 hx1 hx2 ho1 ho2 hqq hq hob1 hob2 hcl1 hcl2 hmn
          by_cases hoD : o1 = D
          · obtain rfl : D = o1 := hoD.symm
            rw [if_pos rfl] at HS1
            have hnn : ¬ ((D : Int) ≠ (D : Int)) := by simp
            have HSA : Hid (o2 < X → cnt (namP D M X) (m + 1) = x2 + 1) := fun g => by rw [HS2.out, if_pos ⟨rfl, g⟩]
            have HSB : Hid (¬ o2 < X → cnt (namP D M X) (m + 1) = x2) := fun g => by rw [HS2.out, if_neg (fun k => g k.2)]; rfl
            have e1 : IntKind.u64.wrap ((x1 : Int) + 1) = ((x1 + 1 : Nat) : Int) := by rw [IntKind.wrap_u64]; omega
            go_wp2_with fail
            go_quiet ((go_at_call 51; with_reducible exact quiet_left' (HO1.out _)))
            go_wp2_with fail
            refine (HO2.out _).mono ?_
            rintro e w9 ⟨rfl, rfl⟩
            by_cases hlt : o2 < X
            · have HS3 := Lib.hid (HSA.out hlt)
              have e2 : IntKind.u64.wrap ((x2 : Int) + 1) = ((x2 + 1 : Nat) : Int) := by rw [IntKind.wrap_u64]; omega
              have hle : (o2 : Int) ≤ th := by have := HX1.out; omega
              clear hlt
              go_wp2_with fail
              go_roundw
              case rel => exact ⟨m + 1, by omega, by go_num, by rw [HS1.out]; rfl, by rw [HS3.out]; rfl, below_drewN hbel _⟩
              case measure => simp [intOf]; omega
            · have HS3 := Lib.hid (HSB.out hlt)
              have hle : ¬ ((o2 : Int) ≤ th) := by have := HX1.out; omega
              clear hlt
              go_wp2_with fail
              go_roundw
              case rel => exact ⟨m + 1, by omega, by go_num, by rw [HS1.out]; rfl, by rw [HS3.out], below_drewN hbel _⟩
              case measure => simp [intOf]; omega
          · have t1 : decide ((o1 : Int) = (D : Int)) = false := by simp; omega
            have t2 : ((o1 : Int) == (D : Int)) = false := by simp; omega
            have t3 : ((o1 : Int) != (D : Int)) = true := by simp; omega
            have t4 : decide ((o1 : Int) ≠ (D : Int)) = true := by simp; omega
            rw [if_neg hoD] at HS1
            rw [if_neg (fun g => hoD g.1)] at HS2
            clear hoD
            go_wp2_with fail
            go_quiet ((go_at_call 51; with_reducible exact quiet_left' (HO1.out _)))
            go_wp2_with fail
            go_roundw
            case rel => exact ⟨m + 1, by omega, by go_num, by rw [HS1.out]; rfl, by rw [HS2.out]; rfl, below_drewN hbel _⟩
            case measure => simp [intOf]; omega
        · obtain rfl : m = N := by omega
          have hx5 : ¬ ((m : Int) < (m : Int)) := by omega
          rw [HAE.out, HNE.out]
          have K3' : Hid (Below w.heap.size w wr) := hbel
          go_wp2_with fail
          refine (HOX.out _).mono ?_
          rintro e w4 ⟨⟨R4, r4, rfl, hR4⟩, hb4⟩
          have K4 : Hid (Below w.heap.size w w4) := bel_on K3'.out hb4
          clear hb4
          go_wp2_with fail
          refine (HOA.out _).mono ?_
          rintro e w5 ⟨⟨R5, r5, rfl, hR5⟩, hb5⟩
          have K5 : Hid (Below w.heap.size w w5) := bel_on K4.out hb5
          have R4' := hR4.below hb5
          clear hb5
          go_wp2_with fail
          refine (HRT.out _ _ _ _ _ R4' hR5).mono ?_
          rintro e w6 ⟨X6, x6, Z6, z6, rfl, gx6, gz6, hb6⟩
          obtain ⟨w6b, hw6⟩ : ∃ W, W = w6.alloc (.cells #[.slice X6 n1a x6, .slice Z6 n1b z6] 27) := ⟨_, rfl⟩
          have d6 : Below w6.heap.size w6 w6b := by rw [hw6]; exact alloc_bel _ _
          have hbb6 := bel_on hb6 d6
          have K6 : Hid (Below w.heap.size w w6b) := bel_on K5.out hbb6
          have T6 : Hid (Blk w6b w6.heap.size 27 #[.slice X6 n1a x6, .slice Z6 n1b z6]) := by unfold Hid; rw [hw6]; exact Blk.new _ _ _
          have GX6 := Lib.hid (gx6.below d6)
          have GZ6 := Lib.hid (gz6.below d6)
          have HW6 := Lib.hid hw6
          clear hw6 d6 hbb6 hb6 gx6 gz6
          have q0 := T6.out.cell 0
          have q1 := T6.out.cell 1
          obtain ⟨c0, c1, c18, c19⟩ := HCL.out _ K6.out
          go_wp2_with (rw [← HW6.out])
          refine (HCM.out _ _ _ _ _ K6.out GX6.out GZ6.out).mono ?_
          rintro e w7 ⟨rfl, hb7⟩
          have K7 : Hid (Below w.heap.size w w7) := bel_on K6.out hb7
          clear hb7 q0 q1 c0 c1 c18 c19 hR4 hR5 R4'
          go_wp2_with fail
          refine wp_region_noPanic ?_
          obtain ⟨v0, hv0⟩ : ∃ W, W = w7.drew := ⟨_, rfl⟩
          have g0 : Below w.heap.size w v0 := by rw [hv0]; exact K7.out.drew
          have HSX : Hid (∀ W, Below w.heap.size w W → W.cell? ⟨w0.heap.size, 1, none⟩ = some (.int .i64 (D : Int))) := fun W hW => (HCL.out W hW).2.1
          refine wp_region_held_drew (S := fun W => W.cell? ⟨w0.heap.size, 1, none⟩ = some (.int .i64 (D : Int))) (by kernel_rfl) (by rw [← hv0]; exact HSX.out _ g0) (fun hS0 => ?_)
          rw [← hv0] at hS0 ⊢
          clear hv0
          refine hd_take 0 (.pointer (some ⟨w0.heap.size, 1, none⟩)) rfl rfl (by kernel_rfl) (by kernel_rfl) (by kernel_rfl) (fun _ _ _ h => h) (fun w hw => by go_simp) hS0 ?_
          refine hd_take 2 (.int .u64 (M : Int)) rfl rfl (by kernel_rfl) (by kernel_rfl) (by kernel_rfl) (fun _ _ _ h => h) (fun w hw => by go_simp) hS0 ?_
          refine hd_take 4 (.int .i64 th) rfl rfl (by kernel_rfl) (by kernel_rfl) (by kernel_rfl) (fun _ _ _ h => h) (fun w hw => by go_simp) hS0 ?_
          simp only [List.getElem_toArray, List.getElem_cons_succ, List.getElem_cons_zero, Act.put, List.setIfInBounds_toArray, List.set_cons_zero, List.set_cons_succ]
          refine hd_take 1 (.int .i64 (D : Int)) rfl rfl (by kernel_rfl) (by kernel_rfl) (by kernel_rfl) (fun _ _ _ h => h) (fun w hw => by have hx := hw; simp [go_sem, hx]) hS0 ?_
          simp only [List.getElem_toArray, List.getElem_cons_succ, List.getElem_cons_zero, Act.put, List.setIfInBounds_toArray, List.set_cons_zero, List.set_cons_succ]
          refine hd_two 3 9 (by kernel_rfl) (op_call 51 #[.int .u64 (M : Int)] rfl rfl (by go_simp) ((HOM.out v0).mono ?_)) (op_run (.pointer (some ⟨v0.heap.size, 0, none⟩)) (v0.alloc (.cells #[.slice none 0 0, .slice none 0 0] 27)) rfl rfl (by go_simp) ⟨HSX.out _ (bel_on g0 (alloc_bel _ _)), ?_⟩)
          · rintro e v1 ⟨rfl, rfl⟩
            refine ⟨_, rfl, hS0, ?_⟩
            simp only [List.getElem_toArray, List.getElem_cons_succ, List.getElem_cons_zero, Act.put, List.setIfInBounds_toArray, List.set_cons_zero, List.set_cons_succ]
            refine hd_two 5 9 (by kernel_rfl) (op_call 55 #[.int .i64 (D : Int), .int .i64 (K : Int), .int .i64 th] rfl rfl (by go_simp) ((HTL.out v0).mono ?_)) (op_run (.pointer (some ⟨v0.heap.size, 0, none⟩)) (v0.alloc (.cells #[.slice none 0 0, .slice none 0 0] 27)) rfl rfl (by go_simp) ⟨HSX.out _ (bel_on g0 (alloc_bel _ _)), ?_⟩)
            · rintro e v2 ⟨X1, x1, Z1, y1, rfl, gx, gz, hbx⟩
              have g2 := bel_on g0 hbx
              have hS2 := HSX.out _ g2
              refine ⟨_, rfl, hS2, ?_⟩
              simp only [List.getElem_toArray, List.getElem_cons_succ, List.getElem_cons_zero, Act.put, List.setIfInBounds_toArray, List.set_cons_zero, List.set_cons_succ]
              refine hd_take 6 (.tuple #[.agg #[.slice X1 n1a x1, .slice Z1 n1b y1], .int .i64 0]) rfl rfl (by kernel_rfl) (by kernel_rfl) (by kernel_rfl) (fun _ _ _ h => h) (fun w hw => by go_simp) hS2 ?_
              simp only [List.getElem_toArray, List.getElem_cons_succ, List.getElem_cons_zero, Act.put, List.setIfInBounds_toArray, List.set_cons_zero, List.set_cons_succ]
              refine hd_take 7 (.agg #[.slice X1 n1a x1, .slice Z1 n1b y1]) rfl rfl (by kernel_rfl) (by kernel_rfl) (by kernel_rfl) (fun _ _ _ h => h) (fun w hw => by go_simp) hS2 ?_
              refine hd_take 8 (.int .i64 0) rfl rfl (by kernel_rfl) (by kernel_rfl) (by kernel_rfl) (fun _ _ _ h => h) (fun w hw => by go_simp) hS2 ?_
              simp only [List.getElem_toArray, List.getElem_cons_succ, List.getElem_cons_zero, Act.put, List.setIfInBounds_toArray, List.set_cons_zero, List.set_cons_succ]
              refine hd_sole 9 (by kernel_rfl) (op_run (.pointer (some ⟨v2.heap.size, 0, none⟩)) (v2.alloc (.cells #[.slice none 0 0, .slice none 0 0] 27)) rfl rfl (by go_simp) ⟨HSX.out _ (bel_on g2 (alloc_bel _ _)), ?_⟩)
              simp only [List.getElem_toArray, List.getElem_cons_succ, List.getElem_cons_zero, Act.put, List.setIfInBounds_toArray, List.set_cons_zero, List.set_cons_succ]
              obtain ⟨G, hG⟩ : ∃ G, v2.heap.size = G := ⟨_, rfl⟩
              have BK : Blk (v2.alloc (.cells #[.slice none 0 0, .slice none 0 0] 27)) G 27 #[.slice none 0 0, .slice none 0 0] := by rw [← hG]; exact Blk.new _ _ _
              obtain ⟨WW, hWW⟩ : ∃ W, (v2.alloc (.cells #[.slice none 0 0, .slice none 0 0] 27)).setRow G #[.slice X1 n1a x1, .slice Z1 n1b y1] = W := ⟨_, rfl⟩
              have KB : Below G v2 WW := by rw [← hWW]; exact below_setRow (by rw [← hG]; exact alloc_bel _ _) (Nat.le_refl _) _
              have KF : Hid (Below w.heap.size w WW) := g2.trans (KB.mono (by rw [← hG]; exact g2.size))
              have NX : Hid (NR WW X1 x1 l1a) := gx.1.below (by rw [hG]; exact KB)
              have NZ : Hid (NR WW Z1 y1 l1b) := gz.1.below (by rw [hG]; exact KB)
              have BW : Hid (Blk WW G 27 #[.slice X1 n1a x1, .slice Z1 n1b y1]) := by unfold Hid; rw [← hWW]; exact BK.setRow _
              rw [hG]
              refine hd_store 10 G #[.slice X1 n1a x1, .slice Z1 n1b y1] 27 (.tmp 15) (.tmp 86) rfl rfl rfl (by kernel_rfl) rfl rfl BK (by kernel_rfl) rfl (by kernel_rfl) (by rw [hWW]; exact HSX.out _ KF.out) ?_
              rw [hWW]
              simp only [List.getElem_toArray, List.getElem_cons_succ, List.getElem_cons_zero, Act.put, List.setIfInBounds_toArray, List.set_cons_zero, List.set_cons_succ]
              refine hd_take 11 (.int .i64 0) rfl rfl (by kernel_rfl) (by kernel_rfl) (by kernel_rfl) (fun _ _ _ h => h) (fun w hw => by go_simp) (HSX.out _ KF.out) ?_
              simp only [List.getElem_toArray, List.getElem_cons_succ, List.getElem_cons_zero, Act.put, List.setIfInBounds_toArray, List.set_cons_zero, List.set_cons_succ]
              refine wpAnyH_done (by kernel_rfl) (NoPanic.normal ?_) _
              have q0 := BW.out.cell 0
              have q1 := BW.out.cell 1
              clear hWW BK gx gz hbx g2 hS2 hS0 g0 hG KB
              go_wp2_with fail
              refine (HIS.out _ _ _ _ _ NX.out NZ.out).mono ?_
              rintro e w8 ⟨rfl, hb8⟩
              have K8 : Hid (Below w.heap.size w w8) := bel_on KF.out hb8
              clear hb8 q0 q1
              go_wp2_with fail
              go_ret
              exact ⟨by simp, bel_on b0.out K8.out⟩
            · simp only [List.getElem_toArray, List.getElem_cons_succ, List.getElem_cons_zero, Act.put, List.setIfInBounds_toArray, List.set_cons_zero, List.set_cons_succ]
              refine hd_calls 5 55 #[.int .i64 (D : Int), .int .i64 (K : Int), .int .i64 th] rfl rfl (by kernel_rfl) (by go_simp) ((HTL.out _).mono ?_)
              rintro e v2 ⟨X1, x1, Z1, y1, rfl, gx, gz, hbx⟩
              have g2 := bel_on (bel_on g0 (alloc_bel _ _)) hbx
              have hS2 := HSX.out _ g2
              refine ⟨_, rfl, hS2, ?_⟩
              simp only [List.getElem_toArray, List.getElem_cons_succ, List.getElem_cons_zero, Act.put, List.setIfInBounds_toArray, List.set_cons_zero, List.set_cons_succ]
              refine hd_take 6 (.tuple #[.agg #[.slice X1 n1a x1, .slice Z1 n1b y1], .int .i64 0]) rfl rfl (by kernel_rfl) (by kernel_rfl) (by kernel_rfl) (fun _ _ _ h => h) (fun w hw => by go_simp) hS2 ?_
              simp only [List.getElem_toArray, List.getElem_cons_succ, List.getElem_cons_zero, Act.put, List.setIfInBounds_toArray, List.set_cons_zero, List.set_cons_succ]
              refine hd_take 7 (.agg #[.slice X1 n1a x1, .slice Z1 n1b y1]) rfl rfl (by kernel_rfl) (by kernel_rfl) (by kernel_rfl) (fun _ _ _ h => h) (fun w hw => by go_simp) hS2 ?_
              refine hd_take 8 (.int .i64 0) rfl rfl (by kernel_rfl) (by kernel_rfl) (by kernel_rfl) (fun _ _ _ h => h) (fun w hw => by go_simp) hS2 ?_
              simp only [List.getElem_toArray, List.getElem_cons_succ, List.getElem_cons_zero, Act.put, List.setIfInBounds_toArray, List.set_cons_zero, List.set_cons_succ]
              obtain ⟨G, hG⟩ : ∃ G, v0.heap.size = G := ⟨_, rfl⟩
              have BK : Blk v2 G 27 #[.slice none 0 0, .slice none 0 0] := by rw [← hG]; exact (Blk.new v0 _ _).below' hbx
              have hGL : G < (v0.alloc (.cells #[.slice none 0 0, .slice none 0 0] 27)).heap.size := by rw [← hG]; exact (Blk.new v0 _ _).lt
              obtain ⟨WW, hWW⟩ : ∃ W, v2.setRow G #[.slice X1 n1a x1, .slice Z1 n1b y1] = W := ⟨_, rfl⟩
              have KF : Hid (Below w.heap.size w WW) := by unfold Hid; rw [← hWW]; exact below_setRow g2 (by rw [← hG]; exact g0.size) _
              have NX : Hid (NR WW X1 x1 l1a) := by unfold Hid; rw [← hWW]; exact gx.setRow_ hGL _
              have NZ : Hid (NR WW Z1 y1 l1b) := by unfold Hid; rw [← hWW]; exact gz.setRow_ hGL _
              have BW : Hid (Blk WW G 27 #[.slice X1 n1a x1, .slice Z1 n1b y1]) := by unfold Hid; rw [← hWW]; exact BK.setRow _
              rw [hG]
              refine hd_store 10 G #[.slice X1 n1a x1, .slice Z1 n1b y1] 27 (.tmp 15) (.tmp 86) rfl rfl rfl (by kernel_rfl) rfl rfl BK (by kernel_rfl) rfl (by kernel_rfl) (by rw [hWW]; exact HSX.out _ KF.out) ?_
              rw [hWW]
              simp only [List.getElem_toArray, List.getElem_cons_succ, List.getElem_cons_zero, Act.put, List.setIfInBounds_toArray, List.set_cons_zero, List.set_cons_succ]
              refine hd_take 11 (.int .i64 0) rfl rfl (by kernel_rfl) (by kernel_rfl) (by kernel_rfl) (fun _ _ _ h => h) (fun w hw => by go_simp) (HSX.out _ KF.out) ?_
              simp only [List.getElem_toArray, List.getElem_cons_succ, List.getElem_cons_zero, Act.put, List.setIfInBounds_toArray, List.set_cons_zero, List.set_cons_succ]
              refine wpAnyH_done (by kernel_rfl) (NoPanic.normal ?_) _
              have q0 := BW.out.cell 0
              have q1 := BW.out.cell 1
              clear hWW BK gx gz hbx g2 hS2 hS0 g0 hG hGL
              go_wp2_with fail
              refine (HIS.out _ _ _ _ _ NX.out NZ.out).mono ?_
              rintro e w8 ⟨rfl, hb8⟩
              have K8 : Hid (Below w.heap.size w w8) := bel_on KF.out hb8
              clear hb8 q0 q1
              go_wp2_with fail
              go_ret
              exact ⟨by simp, bel_on b0.out K8.out⟩
          · simp only [List.getElem_toArray, List.getElem_cons_succ, List.getElem_cons_zero, Act.put, List.setIfInBounds_toArray, List.set_cons_zero, List.set_cons_succ]
            refine hd_calls 3 51 #[.int .u64 (M : Int)] rfl rfl (by kernel_rfl) (by go_simp) ((HOM.out _).mono ?_)
            rintro e v1 ⟨rfl, rfl⟩
            refine ⟨_, rfl, HSX.out _ (bel_on g0 (alloc_bel _ _)), ?_⟩
            simp only [List.getElem_toArray, List.getElem_cons_succ, List.getElem_cons_zero, Act.put, List.setIfInBounds_toArray, List.set_cons_zero, List.set_cons_succ]
            refine hd_calls 5 55 #[.int .i64 (D : Int), .int .i64 (K : Int), .int .i64 th] rfl rfl (by kernel_rfl) (by go_simp) ((HTL.out _).mono ?_)
            rintro e v2 ⟨X1, x1, Z1, y1, rfl, gx, gz, hbx⟩
            have g2 := bel_on (bel_on g0 (alloc_bel _ _)) hbx
            have hS2 := HSX.out _ g2
            refine ⟨_, rfl, hS2, ?_⟩
            simp only [List.getElem_toArray, List.getElem_cons_succ, List.getElem_cons_zero, Act.put, List.setIfInBounds_toArray, List.set_cons_zero, List.set_cons_succ]
            refine hd_take 6 (.tuple #[.agg #[.slice X1 n1a x1, .slice Z1 n1b y1], .int .i64 0]) rfl rfl (by kernel_rfl) (by kernel_rfl) (by kernel_rfl) (fun _ _ _ h => h) (fun w hw => by go_simp) hS2 ?_
            simp only [List.getElem_toArray, List.getElem_cons_succ, List.getElem_cons_zero, Act.put, List.setIfInBounds_toArray, List.set_cons_zero, List.set_cons_succ]
            refine hd_take 7 (.agg #[.slice X1 n1a x1, .slice Z1 n1b y1]) rfl rfl (by kernel_rfl) (by kernel_rfl) (by kernel_rfl) (fun _ _ _ h => h) (fun w hw => by go_simp) hS2 ?_
            refine hd_take 8 (.int .i64 0) rfl rfl (by kernel_rfl) (by kernel_rfl) (by kernel_rfl) (fun _ _ _ h => h) (fun w hw => by go_simp) hS2 ?_
            simp only [List.getElem_toArray, List.getElem_cons_succ, List.getElem_cons_zero, Act.put, List.setIfInBounds_toArray, List.set_cons_zero, List.set_cons_succ]
            obtain ⟨G, hG⟩ : ∃ G, v0.heap.size = G := ⟨_, rfl⟩
            have BK : Blk v2 G 27 #[.slice none 0 0, .slice none 0 0] := by rw [← hG]; exact (Blk.new v0 _ _).below' hbx
            have hGL : G < (v0.alloc (.cells #[.slice none 0 0, .slice none 0 0] 27)).heap.size := by rw [← hG]; exact (Blk.new v0 _ _).lt
            obtain ⟨WW, hWW⟩ : ∃ W, v2.setRow G #[.slice X1 n1a x1, .slice Z1 n1b y1] = W := ⟨_, rfl⟩
            have KF : Hid (Below w.heap.size w WW) := by unfold Hid; rw [← hWW]; exact below_setRow g2 (by rw [← hG]; exact g0.size) _
            have NX : Hid (NR WW X1 x1 l1a) := by unfold Hid; rw [← hWW]; exact gx.setRow_ hGL _
            have NZ : Hid (NR WW Z1 y1 l1b) := by unfold Hid; rw [← hWW]; exact gz.setRow_ hGL _
            have BW : Hid (Blk WW G 27 #[.slice X1 n1a x1, .slice Z1 n1b y1]) := by unfold Hid; rw [← hWW]; exact BK.setRow _
            rw [hG]
            refine hd_store 10 G #[.slice X1 n1a x1, .slice Z1 n1b y1] 27 (.tmp 15) (.tmp 86) rfl rfl rfl (by kernel_rfl) rfl rfl BK (by kernel_rfl) rfl (by kernel_rfl) (by rw [hWW]; exact HSX.out _ KF.out) ?_
            rw [hWW]
            simp only [List.getElem_toArray, List.getElem_cons_succ, List.getElem_cons_zero, Act.put, List.setIfInBounds_toArray, List.set_cons_zero, List.set_cons_succ]
            refine hd_take 11 (.int .i64 0) rfl rfl (by kernel_rfl) (by kernel_rfl) (by kernel_rfl) (fun _ _ _ h => h) (fun w hw => by go_simp) (HSX.out _ KF.out) ?_
            simp only [List.getElem_toArray, List.getElem_cons_succ, List.getElem_cons_zero, Act.put, List.setIfInBounds_toArray, List.set_cons_zero, List.set_cons_succ]
            refine wpAnyH_done (by kernel_rfl) (NoPanic.normal ?_) _
            have q0 := BW.out.cell 0
            have q1 := BW.out.cell 1
            clear hWW BK gx gz hbx g2 hS2 hS0 g0 hG hGL
            go_wp2_with fail
            refine (HIS.out _ _ _ _ _ NX.out NZ.out).mono ?_
            rintro e w8 ⟨rfl, hb8⟩
            have K8 : Hid (Below w.heap.size w w8) := bel_on KF.out hb8
            clear hb8 q0 q1
            go_wp2_with fail
            go_ret
            exact ⟨by simp, bel_on b0.out K8.out⟩
  · have hok2 : s.ok = false := by simpa using hok
    rw [hok2] at HVS
    generalize s.cs.toArray = cs at *
    clear hok hok2 hW0 h h0 hk ha
    go_enter Tryz.func9, Tryz.ntmps9
    go_wp2_with (rw [← HW0.out])
    refine (alive_any _).mono ?_
    rintro e w1 ⟨rfl, hb1⟩
    have K1 : Hid (Below w.heap.size w w1) := bel_on K0.out hb1
    clear hb1
    go_wp2_with (refine wpList_load_row rfl 29 (.tmp 2) rfl w0.heap.size rfl 29 cs (0, 0) _ (HX.out _ K1.out) Tryz.underlying29 rfl HIN.out ?_)
    refine (HVS.out _ K1.out).mono ?_
    rintro e w2 ⟨rfl, hb2⟩
    have K2 : Hid (Below w.heap.size w w2) := bel_on K1.out hb2
    clear hb2
    go_wp2_with fail
    go_ret
    exact ⟨by simp, bel_on b0.out K2.out⟩
theorem codeInnocent_walk (s : StV) (a : Nat) (w : World) (h : StOK w s) (h1 : a < 18446744073709551616) :
    Calls Tryz.prog 9 #[.agg s.cs.toArray, .int .u64 (a : Int)] w fun e w' => e = .returned (.bool true) ∧ Below w.heap.size w w' := codeInnocent_walk0 s a w h h1
end Go.Proofs.YtenpkmgbaajeeaaGreat
