/-
  Lemmas and contracts, joined.
-/
import Derived.Deep.QuietTactic
import Derived.BigQuiet
import Derived.Test.YtenpkmgbaajeeaaGreatCc1
import Derived.Test.YtenpkmgbaajeeaaGreatCp1
import Derived.Test.YtenpkmgbaajeeaaGreatCa2
set_option linter.unusedSimpArgs false
set_option linter.unusedVariables false
set_option linter.unnecessarySimpa false
/- Whether a code of steps is complete: the reference's, and both for any code. -/
namespace Go.Proofs.YtenpkmgbaajeeaaGreat
open Go.RowKit
set_option linter.unusedVariables false
set_option linter.unusedSimpArgs false

def thL (t : Nat → Int) (n : Nat) : List Int := (List.range n).map t
theorem thL_length (t : Nat → Int) (n : Nat) : (thL t n).length = n := by simp [thL]
theorem thL_succ (t : Nat → Int) (n : Nat) : thL t (n + 1) = thL t n ++ [t n] := by simp [thL, List.range_succ]
theorem thL_it {t : Nat → Int} {n i : Nat} (h : i < n) : it (thL t n) i = t i := by rw [it_in (by rw [thL_length]; exact h)]; simp [thL]
theorem mayS_or {d : Nat} {t : Nat → Int} {j v x : Nat} : (decide (∃ u, u < v ∧ mayS d t j u = true ∧ t (u + x) < (u : Int)) || (mayS d t j v && decide (t (v + x) < (v : Int)))) = decide (∃ u, u < v + 1 ∧ mayS d t j u = true ∧ t (u + x) < (u : Int)) := by
  rw [Bool.eq_iff_iff, Bool.or_eq_true, Bool.and_eq_true, decide_eq_true_eq, decide_eq_true_eq, decide_eq_true_eq]
  constructor
  · rintro (⟨u, h1, h2, h3⟩ | ⟨h1, h2⟩)
    · exact ⟨u, by omega, h2, h3⟩
    · exact ⟨v, by omega, h1, h2⟩
  · rintro ⟨u, h1, h2, h3⟩
    by_cases e : u = v
    · subst e; exact .inr ⟨h2, h3⟩
    · exact .inl ⟨u, by omega, h2, h3⟩
theorem mayS_fin {d : Nat} {t : Nat → Int} {j x : Nat} : decide (∃ u, u < d + 1 ∧ mayS d t j u = true ∧ t (u + x) < (u : Int)) = mayS d t (j + 1) x := by
  rw [mayS, decide_eq_decide]
  constructor
  · rintro ⟨v, hv, h1, h3⟩; exact ⟨v, by omega, h1, h3⟩
  · rintro ⟨v, hv, h1, h3⟩; exact ⟨v, by omega, h1, h3⟩
/-- What the next block may weigh, the first v weights of this one looked at. -/
def nextQ (d : Nat) (t : Nat → Int) (j v x : Nat) : Bool := decide (∃ u, u < v ∧ mayS d t j u = true ∧ t (u + x) < (u : Int))
end Go.Proofs.YtenpkmgbaajeeaaGreat

/- The law CodeTails: the walk. -/
namespace Go.Proofs.YtenpkmgbaajeeaaGreat
open Go.RowKit
set_option linter.unusedVariables false
set_option linter.unusedSimpArgs false

theorem frac2_open_ {W w' : World} {e : Ending} {r : (List Nat × List Nat) × Int} (h : Frac2 W w' e r) : ∃ X x Z z, e = .returned (.tuple #[.agg #[.slice X r.1.1.length x, .slice Z r.1.2.length z], .int .i64 r.2]) ∧ NR w' X x r.1.1 ∧ NR w' Z z r.1.2 ∧ Below W.heap.size W w' := by
  obtain ⟨v, rfl, X, x, Z, z, rfl, h1, h2, _, hb⟩ := h
  exact ⟨X, x, Z, z, rfl, h1.nr_, h2.nr_, hb⟩
set_option maxHeartbeats 8000000 in
set_option maxRecDepth 100000 in
theorem Complete_any (s : StV) (w : World) (h : StOK w s) :
    Calls Tryz.prog 61 #[.agg s.cs.toArray] w fun e w' => e = .returned (.tuple #[.bool (cmpSt s).1, .int .i64 (cmpSt s).2]) ∧ Below w.heap.size w w' := by
  cases hok : s.ok with
  | true =>
    have := complete_good s w h hok
    unfold cmpSt
    rw [hok]
    exact this
  | false =>
    have HCK : Hid (∀ W, Below w.heap.size w W → Calls Tryz.prog 21 #[.agg s.cs.toArray] W fun e w' => e = .returned (.int .i64 (ckSt s.ok)) ∧ Below W.heap.size W w') := fun W hW => CheckSteps_any s W (h.below hW)
    have hks := h.k16
    obtain ⟨W0, hW0⟩ : ∃ W : World, W = w.alloc (.cells s.cs.toArray 29) := ⟨_, rfl⟩
    have b0 : Hid (Below w.heap.size w W0) := by unfold Hid; rw [hW0]; exact alloc_below _ _
    have x0 : Hid (Blk W0 w.heap.size 29 s.cs.toArray) := by unfold Hid; rw [hW0]; exact Blk.new w _ _
    have HW0 := Lib.hid hW0
    have HIN := Lib.hid (StV.info (s := s) hks)
    have HS : Hid (cmpSt s = (false, 70)) := by unfold Hid cmpSt; rw [hok]; rfl
    rw [hok] at HCK
    rw [HS.out]
    generalize s.cs.toArray = cs at *
    clear hW0 h hks hok
    go_enter Tryz.func61, Tryz.ntmps61
    go_wp2_with (first
      | (rw [← HW0.out])
      | (refine wpList_load_row rfl 29 (.tmp 1) rfl (w.heap.size) rfl 29 cs (0, 0) _ x0.out Tryz.underlying29 rfl HIN.out ?_)
      | (go_at_call 21; (with_reducible refine (HCK.out _ b0.out).mono ?_); rintro e w1 ⟨rfl, hb⟩; have D1 := Lib.hid (bel_on b0.out hb); clear hb; simp only [ckSt]))
    go_ret2
    exact ⟨rfl, D1.out⟩
end Go.Proofs.YtenpkmgbaajeeaaGreat

/- The law CodeThreshold: the walk. -/
namespace Go.Proofs.YtenpkmgbaajeeaaGreat
open Go.RowKit
set_option linter.unusedVariables false
set_option linter.unusedSimpArgs false

theorem bin_sm {d : Nat} (h : d ≤ 64) : Sm (bin (2 * d) d) := sm_bin (by omega)
theorem bin_ne (d : Nat) : bin (2 * d) d ≠ 0 := by have := bin_pos (a := 2 * d) (b := d) (by omega); omega
theorem divs_sm {d k X : Nat} (hd : d ≤ 64) (hk : k ≤ 2 * d) (hX : X ≤ k + 1) : Sm (divsN d k X) := (bin_sm hd).mono (by have := divsN_sym hk hX; omega)
/-- The tail of the threshold is at most the limit, and that of the next number is above it. -/
theorem thr_tails {s : StV} (hok : s.ok = true) {d K : Nat} (hd : s.b = (d : Int)) (hK : K ≤ 2 * d) : ∃ X : Nat, s.th K + 1 = (X : Int) ∧ X + 1 ≤ K + 1 ∧ -1 ≤ s.th K ∧ s.th K < K ∧
    cmpFS (lowS (divsN d K X) (bin (2 * d) d)).1 (lowS (divsN d K X) (bin (2 * d) d)).2 s.x s.y = (cmpN (divsN d K X * val s.y) (val s.x * bin (2 * d) d), 0) ∧ cmpN (divsN d K X * val s.y) (val s.x * bin (2 * d) d) ≤ 0 ∧
    cmpFS (lowS (divsN d K (X + 1)) (bin (2 * d) d)).1 (lowS (divsN d K (X + 1)) (bin (2 * d) d)).2 s.x s.y = (cmpN (divsN d K (X + 1) * val s.y) (val s.x * bin (2 * d) d), 0) ∧ 0 < cmpN (divsN d K (X + 1) * val s.y) (val s.x * bin (2 * d) d) := by
  obtain ⟨⟨q1, q2, q3, q4⟩, hl⟩ := StV.parts hok
  obtain ⟨hv, h2, h3, h4⟩ := limB_iff.1 hl
  have e : s.th K = thS d K (val s.x) (val s.y) := by unfold StV.th; rw [hd, Int.toNat_natCast]
  have h5 := thS_ge d K (val s.x) (val s.y)
  have h6 := thS_lt hK h4
  have h7 := thS_over h6
  rw [e]
  obtain ⟨X, hX⟩ : ∃ X : Nat, thS d K (val s.x) (val s.y) + 1 = (X : Int) := ⟨(thS d K (val s.x) (val s.y) + 1).toNat, by omega⟩
  rw [show (thS d K (val s.x) (val s.y) + 2).toNat = X + 1 from by omega] at h7
  refine ⟨X, hX, by omega, h5, h6, low_cmp (bin_ne d) (divs_sm (by omega) hK (by omega)) (bin_sm (by omega)) hv, cmpN_le0.2 ?_, low_cmp (bin_ne d) (divs_sm (by omega) hK (by omega)) (bin_sm (by omega)) hv, cmpN_gt0.2 h7⟩
  cases X with
  | zero => simp [divsN, sumN]
  | succ X => exact thS_under (by omega)
set_option maxHeartbeats 8000000 in
set_option maxRecDepth 100000 in
theorem codeThreshold_walk0 (s : StV) (k : Int) (w0 : World) (h0 : StOK w0 s) (hk1 : -9223372036854775808 ≤ k) (hk2 : k ≤ 9223372036854775807) :
    Calls Tryz.prog 10 #[.agg s.cs.toArray, .int .i64 k] w0 fun e w' => e = .returned (.bool true) ∧ Below w0.heap.size w0 w' := by
  have hk := h0.k16
  obtain ⟨w, hW0⟩ : ∃ W : World, W = w0.alloc (.cells s.cs.toArray 29) := ⟨_, rfl⟩
  have b0 : Hid (Below w0.heap.size w0 w) := by unfold Hid; rw [hW0]; exact alloc_bel _ _
  have x0 : Hid (Blk w w0.heap.size 29 s.cs.toArray) := by unfold Hid; rw [hW0]; exact Blk.new w0 _ _
  have h := h0.below b0.out
  have HW0 := Lib.hid hW0
  have HIN := Lib.hid (StV.info (s := s) hk)
  have K0 : Hid (Below w.heap.size w w) := Below.refl _ _
  have HX : Hid (∀ W, Below w.heap.size w W → Blk W w0.heap.size 29 s.cs.toArray) := fun W hW => x0.out.below' hW
  have HTH : Hid (∀ W, Below w.heap.size w W → Calls Tryz.prog 50 #[.agg s.cs.toArray, .int .i64 k] W fun e w' => e = .returned (.tuple #[.int .i64 (thrS s k).1, .int .i64 (thrS s k).2]) ∧ Below W.heap.size W w') := fun W hW => Threshold_any s k W (h.below hW)
  have HVS : Hid (∀ W, Below w.heap.size w W → Calls Tryz.prog 43 #[.agg s.cs.toArray] W fun e w' => e = .returned (.bool s.ok) ∧ Below W.heap.size W w') := fun W hW => refValidSteps_any s W (h.below hW)
  by_cases hok : s.ok = true
  · obtain ⟨⟨q1, q2, q3, q4⟩, -⟩ := StV.parts hok
    obtain ⟨D, hD⟩ : ∃ D : Nat, s.b = (D : Int) := ⟨s.b.toNat, by omega⟩
    have HCL : Hid (∀ W, Below w.heap.size w W → W.cell? ⟨w0.heap.size, 0, none⟩ = some (.int .i64 s.u) ∧ W.cell? ⟨w0.heap.size, 1, none⟩ = some (.int .i64 (D : Int)) ∧ W.cell? ⟨w0.heap.size, 18, none⟩ = some (.slice s.A s.x.length s.ca) ∧ W.cell? ⟨w0.heap.size, 19, none⟩ = some (.slice s.Bd s.y.length s.cb)) := fun W hW => by
      have := StV.cells hk (x0.out.below' hW)
      rw [hD] at this
      exact this
    by_cases hr : k < 0 ∨ 2 * s.b < k
    · have e1 : thrS s k = (0, 2) := by unfold thrS; rw [if_pos hok, if_pos hr]
      rw [e1] at HTH
      rw [hok] at HVS
      rw [hD] at hr
      have hD64 : (D : Int) ≤ 64 := by omega
      generalize s.cs.toArray = cs at *
      clear hok hW0 h h0 hk q1 q2 q3 q4
      go_enter Tryz.func10, Tryz.ntmps10
      go_wp2_with (rw [← HW0.out])
      refine (alive_any _).mono ?_
      rintro e w1 ⟨rfl, hb1⟩
      have K1 : Hid (Below w.heap.size w w1) := hb1
      have X1 := Lib.hid (HX.out _ K1.out)
      clear hb1
      go_wp2_with (refine wpList_load_row rfl 29 (.tmp 2) rfl w0.heap.size rfl 29 cs (0, 0) _ X1.out Tryz.underlying29 rfl HIN.out ?_)
      refine (HTH.out _ K1.out).mono ?_
      rintro e w2 ⟨rfl, hb2⟩
      have K2 : Hid (Below w.heap.size w w2) := bel_on K1.out hb2
      have X2 := Lib.hid (HX.out _ K2.out)
      clear hb2
      go_wp2_with (refine wpList_load_row rfl 29 (.tmp 2) rfl w0.heap.size rfl 29 cs (0, 0) _ X2.out Tryz.underlying29 rfl HIN.out ?_)
      refine (HVS.out _ K2.out).mono ?_
      rintro e w3 ⟨rfl, hb3⟩
      have K3 : Hid (Below w.heap.size w w3) := bel_on K2.out hb3
      obtain ⟨-, c1, -, -⟩ := HCL.out _ K3.out
      clear hb3
      by_cases hk0 : k < 0
      · go_wp2_with fail
        go_ret
        exact ⟨by simp, bel_on b0.out K3.out⟩
      · have hk3 : 2 * (D : Int) < k := by omega
        go_wp2_with fail
        go_ret
        exact ⟨by simp, bel_on b0.out K3.out⟩
    · obtain ⟨K, rfl⟩ : ∃ K : Nat, k = (K : Int) := ⟨k.toNat, by omega⟩
      have e1 : thrS s K = (s.th K, 0) := by unfold thrS; rw [if_pos hok, if_neg hr, Int.toNat_natCast]
      obtain ⟨X, hX, hXK, t1, t2, r1, r2, r3, r4⟩ := thr_tails hok hD (show K ≤ 2 * D by omega)
      have u1 := tailS_yes hX (show 1 ≤ D by omega) (by omega) (show K ≤ 2 * D by omega) (show X ≤ K + 1 by omega)
      have u2 := tailS_yes (show s.th K + 1 + 1 = ((X + 1 : Nat) : Int) by omega) (show 1 ≤ D by omega) (by omega) (show K ≤ 2 * D by omega) hXK
      rw [e1] at HTH
      rw [hok] at HVS
      have HCM1 : Hid (∀ W A a B b, Below w.heap.size w W → NR W A a (lowS (divsN D K X) (bin (2 * D) D)).1 → NR W B b (lowS (divsN D K X) (bin (2 * D) D)).2 → Calls Tryz.prog 54 #[.agg #[.slice A (lowS (divsN D K X) (bin (2 * D) D)).1.length a, .slice B (lowS (divsN D K X) (bin (2 * D) D)).2.length b], .agg #[.slice s.A s.x.length s.ca, .slice s.Bd s.y.length s.cb]] W fun e w' => e = .returned (.tuple #[.int .i64 (cmpN (divsN D K X * val s.y) (val s.x * bin (2 * D) D)), .int .i64 0]) ∧ Below W.heap.size W w') := fun W A a B b hW g1 g2 => (CompareFractions_any A a _ B b _ s.A s.ca s.x s.Bd s.cb s.y W rfl rfl rfl rfl g1 g2 (h.hx.below hW) (h.hy.below hW)).mono fun e w' hq => by
        rw [r1] at hq
        exact hq
      have HCM2 : Hid (∀ W A a B b, Below w.heap.size w W → NR W A a (lowS (divsN D K (X + 1)) (bin (2 * D) D)).1 → NR W B b (lowS (divsN D K (X + 1)) (bin (2 * D) D)).2 → Calls Tryz.prog 54 #[.agg #[.slice A (lowS (divsN D K (X + 1)) (bin (2 * D) D)).1.length a, .slice B (lowS (divsN D K (X + 1)) (bin (2 * D) D)).2.length b], .agg #[.slice s.A s.x.length s.ca, .slice s.Bd s.y.length s.cb]] W fun e w' => e = .returned (.tuple #[.int .i64 (cmpN (divsN D K (X + 1) * val s.y) (val s.x * bin (2 * D) D)), .int .i64 0]) ∧ Below W.heap.size W w') := fun W A a B b hW g1 g2 => (CompareFractions_any A a _ B b _ s.A s.ca s.x s.Bd s.cb s.y W rfl rfl rfl rfl g1 g2 (h.hx.below hW) (h.hy.below hW)).mono fun e w' hq => by
        rw [r3] at hq
        exact hq
      obtain ⟨z1, hz1⟩ : ∃ z, cmpN (divsN D K X * val s.y) (val s.x * bin (2 * D) D) = z := ⟨_, rfl⟩
      obtain ⟨z2, hz2⟩ : ∃ z, cmpN (divsN D K (X + 1) * val s.y) (val s.x * bin (2 * D) D) = z := ⟨_, rfl⟩
      rw [hz1] at HCM1 r2
      rw [hz2] at HCM2 r4
      obtain ⟨th, hth⟩ : ∃ q, s.th K = q := ⟨_, rfl⟩
      rw [hth] at HTH t1 t2 u1 u2
      have HT1 : Hid (∀ W, Calls Tryz.prog 55 #[.int .i64 (D : Int), .int .i64 (K : Int), .int .i64 th] W fun e w' => ∃ X x' Z z, e = .returned (.tuple #[.agg #[.slice X (tailS (D : Int) (K : Int) th).1.1.length x', .slice Z (tailS (D : Int) (K : Int) th).1.2.length z], .int .i64 (tailS (D : Int) (K : Int) th).2]) ∧ NR w' X x' (tailS (D : Int) (K : Int) th).1.1 ∧ NR w' Z z (tailS (D : Int) (K : Int) th).1.2 ∧ Below W.heap.size W w') := fun W => (Tail_any (D : Int) (K : Int) th W).mono fun e w' h => frac2_open_ h
      have HT2 : Hid (∀ W, Calls Tryz.prog 55 #[.int .i64 (D : Int), .int .i64 (K : Int), .int .i64 (th + 1)] W fun e w' => ∃ X x' Z z, e = .returned (.tuple #[.agg #[.slice X (tailS (D : Int) (K : Int) (th + 1)).1.1.length x', .slice Z (tailS (D : Int) (K : Int) (th + 1)).1.2.length z], .int .i64 (tailS (D : Int) (K : Int) (th + 1)).2]) ∧ NR w' X x' (tailS (D : Int) (K : Int) (th + 1)).1.1 ∧ NR w' Z z (tailS (D : Int) (K : Int) (th + 1)).1.2 ∧ Below W.heap.size W w') := fun W => (Tail_any (D : Int) (K : Int) (th + 1) W).mono fun e w' h => frac2_open_ h
      rw [u1] at HT1
      rw [u2] at HT2
      dsimp only at HT1 HT2
      have g1 : ¬ ((K : Int) < 0) := by omega
      have g2 : ¬ (2 * (D : Int) < (K : Int)) := by omega
      have g3 : (D : Int) ≤ 64 := by omega
      have g4 : (K : Int) ≤ 128 := by omega
      have g5 : th ≤ 128 := by omega
      generalize (lowS (divsN D K X) (bin (2 * D) D)) = l1 at *
      generalize (lowS (divsN D K (X + 1)) (bin (2 * D) D)) = l2 at *
      obtain ⟨l1a, l1b⟩ := l1
      obtain ⟨l2a, l2b⟩ := l2
      dsimp only at *
      generalize l1a.length = n1a at *
      generalize l1b.length = n1b at *
      generalize l2a.length = n2a at *
      generalize l2b.length = n2b at *
      generalize s.x.length = lx at *
      generalize s.y.length = ly at *
      generalize s.cs.toArray = cs at *
      clear hok hW0 h h0 hk q1 q2 q3 q4 hr hX hXK r1 r3 u1 u2 hz1 hz2 hth e1
      go_enter Tryz.func10, Tryz.ntmps10
      go_wp2_with (rw [← HW0.out])
      refine (alive_any _).mono ?_
      rintro e w1 ⟨rfl, hb1⟩
      have K1 : Hid (Below w.heap.size w w1) := hb1
      have X1 := Lib.hid (HX.out _ K1.out)
      clear hb1
      go_wp2_with (refine wpList_load_row rfl 29 (.tmp 2) rfl w0.heap.size rfl 29 cs (0, 0) _ X1.out Tryz.underlying29 rfl HIN.out ?_)
      refine (HTH.out _ K1.out).mono ?_
      rintro e w2 ⟨rfl, hb2⟩
      have K2' : Hid (Below w.heap.size w w2) := bel_on K1.out hb2
      have X2 := Lib.hid (HX.out _ K2'.out)
      clear hb2
      go_wp2_with (refine wpList_load_row rfl 29 (.tmp 2) rfl w0.heap.size rfl 29 cs (0, 0) _ X2.out Tryz.underlying29 rfl HIN.out ?_)
      refine (HVS.out _ K2'.out).mono ?_
      rintro e w2b ⟨rfl, hb2⟩
      have K2 : Hid (Below w.heap.size w w2b) := bel_on K2'.out hb2
      obtain ⟨-, c1, -, -⟩ := HCL.out _ K2.out
      clear hb2
      go_wp2_with fail
      clear c1
      refine (HT1.out _).mono ?_
      rintro e w3 ⟨X3, x3, Z3, z3, rfl, gx3, gz3, hb3⟩
      obtain ⟨w3b, hw3⟩ : ∃ W, W = w3.alloc (.cells #[.slice X3 n1a x3, .slice Z3 n1b z3] 27) := ⟨_, rfl⟩
      have d3 : Below w3.heap.size w3 w3b := by rw [hw3]; exact alloc_bel _ _
      have hbb3 := bel_on hb3 d3
      have K3 : Hid (Below w.heap.size w w3b) := bel_on K2.out hbb3
      have T3 : Hid (Blk w3b w3.heap.size 27 #[.slice X3 n1a x3, .slice Z3 n1b z3]) := by unfold Hid; rw [hw3]; exact Blk.new _ _ _
      have GX3 := Lib.hid (gx3.below d3)
      have GZ3 := Lib.hid (gz3.below d3)
      have HW3 := Lib.hid hw3
      clear hw3 d3 hbb3 hb3 gx3 gz3
      have q0 := T3.out.cell 0
      have q1 := T3.out.cell 1
      obtain ⟨c0, c1, c18, c19⟩ := HCL.out _ K3.out
      go_wp2_with (rw [← HW3.out])
      refine (HCM1.out _ _ _ _ _ K3.out GX3.out GZ3.out).mono ?_
      rintro e w4 ⟨rfl, hb4⟩
      have K4 : Hid (Below w.heap.size w w4) := bel_on K3.out hb4
      clear hb4 q0 q1 c0 c1 c18 c19
      obtain ⟨-, c1, -, -⟩ := HCL.out _ K4.out
      go_wp2_with fail
      clear c1
      refine (HT2.out _).mono ?_
      rintro e w5 ⟨X5, x5, Z5, z5, rfl, gx5, gz5, hb5⟩
      obtain ⟨w5b, hw5⟩ : ∃ W, W = w5.alloc (.cells #[.slice X5 n2a x5, .slice Z5 n2b z5] 27) := ⟨_, rfl⟩
      have d5 : Below w5.heap.size w5 w5b := by rw [hw5]; exact alloc_bel _ _
      have hbb5 := bel_on hb5 d5
      have K5 : Hid (Below w.heap.size w w5b) := bel_on K4.out hbb5
      have T5 : Hid (Blk w5b w5.heap.size 27 #[.slice X5 n2a x5, .slice Z5 n2b z5]) := by unfold Hid; rw [hw5]; exact Blk.new _ _ _
      have GX5 := Lib.hid (gx5.below d5)
      have GZ5 := Lib.hid (gz5.below d5)
      have HW5 := Lib.hid hw5
      clear hw5 d5 hbb5 hb5 gx5 gz5
      have q0 := T5.out.cell 0
      have q1 := T5.out.cell 1
      obtain ⟨c0, c1, c18, c19⟩ := HCL.out _ K5.out
      go_wp2_with (rw [← HW5.out])
      refine (HCM2.out _ _ _ _ _ K5.out GX5.out GZ5.out).mono ?_
      rintro e w6 ⟨rfl, hb6⟩
      have K6 : Hid (Below w.heap.size w w6) := bel_on K5.out hb6
      clear hb6 q0 q1 c0 c1 c18 c19
      go_wp2_with fail
      go_ret
      exact ⟨by simp, bel_on b0.out K6.out⟩
  · have hok2 : s.ok = false := by simpa using hok
    have e1 : thrS s k = (0, 70) := by unfold thrS; rw [if_neg hok]
    rw [e1] at HTH
    rw [hok2] at HVS
    generalize s.cs.toArray = cs at *
    clear hok hok2 hW0 h h0 hk
    go_enter Tryz.func10, Tryz.ntmps10
    go_wp2_with (rw [← HW0.out])
    refine (alive_any _).mono ?_
    rintro e w1 ⟨rfl, hb1⟩
    have K1 : Hid (Below w.heap.size w w1) := hb1
    have X1 := Lib.hid (HX.out _ K1.out)
    clear hb1
    go_wp2_with (refine wpList_load_row rfl 29 (.tmp 2) rfl w0.heap.size rfl 29 cs (0, 0) _ X1.out Tryz.underlying29 rfl HIN.out ?_)
    refine (HTH.out _ K1.out).mono ?_
    rintro e w2 ⟨rfl, hb2⟩
    have K2 : Hid (Below w.heap.size w w2) := bel_on K1.out hb2
    have X2 := Lib.hid (HX.out _ K2.out)
    clear hb2
    go_wp2_with (refine wpList_load_row rfl 29 (.tmp 2) rfl w0.heap.size rfl 29 cs (0, 0) _ X2.out Tryz.underlying29 rfl HIN.out ?_)
    refine (HVS.out _ K2.out).mono ?_
    rintro e w3 ⟨rfl, hb3⟩
    have K3 : Hid (Below w.heap.size w w3) := bel_on K2.out hb3
    clear hb3
    go_wp2_with fail
    go_ret
    exact ⟨by simp, bel_on b0.out K3.out⟩
theorem codeThreshold_walk (s : StV) (k : Int) (w : World) (h : StOK w s) (h1 : -9223372036854775808 ≤ k) (h2 : k ≤ 9223372036854775807) :
    Calls Tryz.prog 10 #[.agg s.cs.toArray, .int .i64 k] w fun e w' => e = .returned (.bool true) ∧ Below w.heap.size w w' := codeThreshold_walk0 s k w h h1 h2
end Go.Proofs.YtenpkmgbaajeeaaGreat

/- The law CodeComplete: the walk. -/
namespace Go.Proofs.YtenpkmgbaajeeaaGreat
open Go.RowKit
set_option linter.unusedVariables false
set_option linter.unusedSimpArgs false

theorem namesF_up (P : Nat → Bool) : ∀ n i, i + 1 < (namesF P n).length → it (namesF P n) i < it (namesF P n) (i + 1)
  | 0, i, h => by simp [namesF] at h
  | n + 1, i, h => by
    cases e : P n
    · rw [namesF_no e] at h ⊢
      exact namesF_up P n i h
    · rw [namesF_yes e] at h ⊢
      simp only [List.length_append, List.length_cons, List.length_nil] at h
      by_cases g : i + 1 < (namesF P n).length
      · have h1 := namesF_up P n i g
        rw [it_in (by omega), it_in g] at h1
        rw [it_in (by simp; omega), it_in (by simp; omega), List.getElem_append_left (by omega), List.getElem_append_left g]
        exact h1
      · have e2 : i + 1 = (namesF P n).length := by omega
        rw [it_in (by simp; omega), it_in (by simp; omega), List.getElem_append_left (by omega), List.getElem_append_right (by omega)]
        obtain ⟨u, hu, -, hx⟩ := namesF_mem.1 (List.getElem_mem (l := namesF P n) (n := i) (by omega))
        rw [hx]
        simp only [← e2, Nat.sub_self, List.getElem_cons_zero]
        omega
theorem StV.nms_at (s : StV) (y : List UInt8) {i : Nat} (h : i < (s.nms y).length) : 0 ≤ it (s.nms y) i ∧ it (s.nms y) i < s.u.toNat := by
  obtain ⟨u, hu, -, hx⟩ := namesF_mem.1 (List.getElem_mem (l := s.nms y) (n := i) h)
  rw [it_in h, hx]
  omega
theorem StV.nms_up (s : StV) (y : List UInt8) {i : Nat} (h : i + 1 < (s.nms y).length) : it (s.nms y) i < it (s.nms y) (i + 1) := namesF_up _ _ i h
theorem StV.nms_some {s : StV} (hok : s.ok = true) (y : List UInt8) (hc : s.cmp = true) : 0 < (s.nms y).length := by
  obtain ⟨⟨q1, q2, q3, q4⟩, -⟩ := StV.parts hok
  unfold StV.cmp at hc
  rw [Bool.not_eq_true'] at hc
  obtain ⟨u, hu, hn⟩ := complete_names (users := s.u.toNat) (w := s.wts y) (by omega) (fun b hb => StV.wts_le hok y b hb) hc
  have : (u : Int) ∈ s.nms y := namesF_mem.2 ⟨u, hu, hn, rfl⟩
  exact List.length_pos_of_mem this
set_option maxHeartbeats 8000000 in
set_option maxRecDepth 100000 in
theorem codeComplete_walk0 (s : StV) (Y : Option Addr) (d : Nat) (y : List UInt8) (w0 : World) (h0 : StOK w0 s) (hy0 : BR w0 Y d y) :
    Calls Tryz.prog 15 #[.agg s.cs.toArray, .slice Y y.length d] w0 fun e w' => e = .returned (.bool true) ∧ Below w0.heap.size w0 w' := by
  obtain ⟨ny, hyl⟩ : ∃ n, y.length = n := ⟨_, rfl⟩
  rw [hyl]
  have hk := h0.k16
  obtain ⟨w, hW0⟩ : ∃ W : World, W = w0.alloc (.cells s.cs.toArray 29) := ⟨_, rfl⟩
  have b0 : Hid (Below w0.heap.size w0 w) := by unfold Hid; rw [hW0]; exact alloc_bel _ _
  have HX : Hid (∀ W, Below w.heap.size w W → Blk W w0.heap.size 29 s.cs.toArray) := fun W hW => Blk.below' (by rw [hW0]; exact Blk.new w0 _ _) hW
  have h := h0.below b0.out
  have HW0 := Lib.hid hW0
  have HIN := Lib.hid (StV.info (s := s) hk)
  have K0 : Hid (Below w.heap.size w w) := Below.refl _ _
  have hy := hy0.below b0.out
  have HVS : Hid (∀ W, Below w.heap.size w W → Calls Tryz.prog 43 #[.agg s.cs.toArray] W fun e w' => e = .returned (.bool s.ok) ∧ Below W.heap.size W w') := fun W hW => refValidSteps_any s W (h.below hW)
  by_cases hok : s.ok = true
  · obtain ⟨⟨q1, q2, q3, q4⟩, -⟩ := StV.parts hok
    obtain ⟨hn1, hnl, hnu⟩ := StV.n_le hok
    have HCL : Hid (∀ W, Below w.heap.size w W → W.cell? ⟨w0.heap.size, 0, none⟩ = some (.int .i64 s.u) ∧ W.cell? ⟨w0.heap.size, 1, none⟩ = some (.int .i64 s.b) ∧ W.cell? ⟨w0.heap.size, 18, none⟩ = some (.slice s.A s.x.length s.ca) ∧ W.cell? ⟨w0.heap.size, 19, none⟩ = some (.slice s.Bd s.y.length s.cb)) := fun W hW => by
      have := StV.cells hk (HX.out W hW)
      skip
      exact this
    have HCP : Hid (∀ W, Below w.heap.size w W → Calls Tryz.prog 61 #[.agg s.cs.toArray] W fun e w' => e = .returned (.tuple #[.bool s.cmp, .int .i64 0]) ∧ Below W.heap.size W w') := fun W hW => complete_good s W (h.below hW) hok
    have HIC : Hid (∀ W, Below w.heap.size w W → Calls Tryz.prog 44 #[.slice Y ny d, .int .i64 (s.n : Int)] W fun e w' => e = .returned (.bool (copyB y s.n)) ∧ W = w') := fun W hW => refIsCopy_any Y d y s.n W hyl (hy.below hW) (by omega)
    rw [hok] at HVS
    obtain ⟨v, hv⟩ : ∃ v, s.u - 1 = v := ⟨_, rfl⟩
    have ev : IntKind.i64.wrap (s.u - 1) = v := by rw [IntKind.wrap_i64]; omega
    rw [hv] at hnu
    have evb : IntKind.i64.wrap (v * s.b) = (s.n : Int) := by rw [← hnu, IntKind.wrap_i64]; omega
    have ev2 : IntKind.i64.wrap v = v := by rw [IntKind.wrap_i64]; omega
    have evb' : v * s.b = (s.n : Int) := hnu.symm
    have evn : IntKind.i64.wrap (s.n : Int) = (s.n : Int) := by rw [IntKind.wrap_i64]; omega
    clear hv
    cases hc : copyB y s.n
    · rw [hc] at HIC
      generalize s.n = n at *
      generalize s.u = u at *
      generalize s.b = b at *
      generalize s.cmp = cm at *
      generalize s.x.length = lx at *
      generalize s.y.length = ly at *
      generalize s.cs.toArray = cs at *
      clear hok hW0 h h0 hy hy0 hk hc hnl hn1 hnu hyl
      go_enter Tryz.func15, Tryz.ntmps15
      go_wp2_with (rw [← HW0.out])
      refine (alive_any _).mono ?_
      rintro e w1 ⟨rfl, hb1⟩
      have K1 : Hid (Below w.heap.size w w1) := bel_on K0.out hb1
      clear hb1
      go_wp2_with (refine wpList_load_row rfl 29 (.tmp 2) rfl w0.heap.size rfl 29 cs (0, 0) _ (HX.out _ K1.out) Tryz.underlying29 rfl HIN.out ?_)
      refine (HCP.out _ K1.out).mono ?_
      rintro e w2 ⟨rfl, hb2⟩
      have K2 : Hid (Below w.heap.size w w2) := bel_on K1.out hb2
      clear hb2
      go_wp2_with (refine wpList_load_row rfl 29 (.tmp 2) rfl w0.heap.size rfl 29 cs (0, 0) _ (HX.out _ K2.out) Tryz.underlying29 rfl HIN.out ?_)
      refine (HVS.out _ K2.out).mono ?_
      rintro e w3 ⟨rfl, hb3⟩
      have K3 : Hid (Below w.heap.size w w3) := bel_on K2.out hb3
      obtain ⟨c0, c1, -, -⟩ := HCL.out _ K3.out
      clear hb3
      go_wp2_with fail
      clear c0 c1
      refine (HIC.out _ K3.out).mono ?_
      rintro e w4 ⟨rfl, rfl⟩
      go_wp2_with fail
      go_ret
      exact ⟨by simp, bel_on b0.out K3.out⟩
    · have HTS : Hid (∀ W, Below w.heap.size w W → Calls Tryz.prog 26 #[.agg s.cs.toArray, .slice Y ny d] W fun e w' => ∃ A c, (e = .returned (.tuple #[.slice A (s.nms y).length c, .int .i64 0]) ∧ IR w' A c (s.nms y)) ∧ Below W.heap.size W w') := fun W hW => (TraceSteps_any s Y d y W (h.below hW) hyl (hy.below hW)).mono fun e w' ⟨⟨A, c', he, ho⟩, h2⟩ => by
        have : s.nmsR y = (s.nms y, 0) := by unfold StV.nmsR; rw [if_neg (by rw [hok]; simp), if_neg (by rw [hc]; simp)]
        rw [this] at he ho
        exact ⟨A, c', ⟨he, ho⟩, h2⟩
      have HAT : Hid (∀ i, i < (s.nms y).length → 0 ≤ it (s.nms y) i ∧ it (s.nms y) i < s.u) := fun i hi => by
        have := s.nms_at y hi
        omega
      have HUP : Hid (∀ i, i + 1 < (s.nms y).length → it (s.nms y) i < it (s.nms y) (i + 1)) := fun i hi => s.nms_up y hi
      have HNS : Hid (s.cmp = true → 0 < (s.nms y).length) := StV.nms_some hok y
      have hsm := (StV.nms_small hok y).1
      rw [hc] at HIC
      generalize s.nms y = nm at *
      obtain ⟨nl, hnm⟩ : ∃ nl, nm.length = nl := ⟨_, rfl⟩
      rw [hnm] at HTS HAT HUP HNS hsm
      have HNL := Lib.hid hnm
      have hsmi : (nl : Int) ≤ 16 := by omega
      generalize s.n = n at *
      generalize s.u = u at *
      generalize s.b = b at *
      generalize s.cmp = cm at *
      generalize s.x.length = lx at *
      generalize s.y.length = ly at *
      generalize s.cs.toArray = cs at *
      clear hok hW0 h h0 hy hy0 hk hc hnl hn1 hnu hyl hnm hsm
      go_enter Tryz.func15, Tryz.ntmps15
      go_wp2_with (rw [← HW0.out])
      refine (alive_any _).mono ?_
      rintro e w1 ⟨rfl, hb1⟩
      have K1 : Hid (Below w.heap.size w w1) := bel_on K0.out hb1
      clear hb1
      go_wp2_with (refine wpList_load_row rfl 29 (.tmp 2) rfl w0.heap.size rfl 29 cs (0, 0) _ (HX.out _ K1.out) Tryz.underlying29 rfl HIN.out ?_)
      refine (HCP.out _ K1.out).mono ?_
      rintro e w2 ⟨rfl, hb2⟩
      have K2 : Hid (Below w.heap.size w w2) := bel_on K1.out hb2
      clear hb2
      go_wp2_with (refine wpList_load_row rfl 29 (.tmp 2) rfl w0.heap.size rfl 29 cs (0, 0) _ (HX.out _ K2.out) Tryz.underlying29 rfl HIN.out ?_)
      refine (HVS.out _ K2.out).mono ?_
      rintro e w3 ⟨rfl, hb3⟩
      have K3 : Hid (Below w.heap.size w w3) := bel_on K2.out hb3
      obtain ⟨c0, c1, -, -⟩ := HCL.out _ K3.out
      clear hb3
      go_wp2_with fail
      clear c0 c1
      refine (HIC.out _ K3.out).mono ?_
      rintro e w4 ⟨rfl, rfl⟩
      go_wp2_with (refine wpList_load_row rfl 29 (.tmp 2) rfl w0.heap.size rfl 29 cs (0, 0) _ (HX.out _ K3.out) Tryz.underlying29 rfl HIN.out ?_)
      refine (HTS.out _ K3.out).mono ?_
      rintro e w5 ⟨A, cA, ⟨rfl, hI⟩, hb5⟩
      have K5 : Hid (Below w.heap.size w w5) := bel_on K3.out hb5
      have HI : Hid (∀ W, Below w5.heap.size w5 W → IR W A cA nm) := fun W hW => hI.below hW
      clear hb5 hI evb evb' ev ev2 evn
      go_wp2_with fail
      go_loopw [10] (fun vi wr => ∃ i : Nat, i ≤ nl ∧ vi = .int .i64 (i : Int) ∧ Below w5.heap.size w5 wr) (fun vi _ => nl - (intOf vi).toNat)
      case atStart => exact ⟨0, by omega, rfl, Below.refl _ _⟩
      case round =>
        obtain ⟨i, hi, rfl, hbel⟩ := hrel
        have hlt := hbel
        by_cases hin : i < nl
        · have hii : (i : Int) < nl := by omega
          have hi0 : (0 : Int) ≤ i := by omega
          obtain ⟨r1, r2⟩ := HAT.out i hin
          obtain ⟨p, o, rfl, -, g1⟩ := (HI.out _ hbel).at_ (i := i) (by rw [HNL.out]; exact hin)
          obtain ⟨X, hX⟩ : ∃ X, it nm i = X := ⟨_, rfl⟩
          rw [hX] at g1 r1 r2
          have rn1 : decide (X < 0) = false := by simp; omega
          have rn2 : decide (u ≤ X) = false := by simp; omega
          have c0 : wr.cell? ⟨w0.heap.size, 0, none⟩ = some (.int .i64 u) := (HCL.out _ (bel_on K5.out hbel)).1
          by_cases hip : i = 0
          · have hn0 : decide ((0 : Int) < (i : Int)) = false := by simp; omega
            have hn0' : decide (0 < i) = false := by simp; omega
            clear hin hX r1 r2 hip hlt
            go_wp2_with fail
            go_quiet (fail)
            go_wp2_with fail
            go_roundw
            case rel => exact ⟨i + 1, by omega, by go_num, below_drewN hbel _⟩
            case measure => simp [intOf]; omega
          · obtain ⟨j, rfl⟩ : ∃ j, i = j + 1 := ⟨i - 1, by omega⟩
            have hup := HUP.out j hin
            obtain ⟨p', o', e', -, g2⟩ := (HI.out _ hbel).at_ (i := j) (by rw [HNL.out]; omega)
            injection e' with e'
            injection e' with e1 e2
            subst e1 e2
            rw [hX] at hup
            obtain ⟨Z, hZ⟩ : ∃ Z, it nm j = Z := ⟨_, rfl⟩
            rw [hZ] at g2 hup
            have rn3 : decide (X ≤ Z) = false := by simp; omega
            obtain ⟨i, hij⟩ : ∃ i, j + 1 = i := ⟨_, rfl⟩
            rw [hij] at g1 hii hi hin hi0 ⊢
            have hn0 : decide ((0 : Int) < (i : Int)) = true := by simp; omega
            have hn0' : decide (0 < i) = true := by simp; omega
            have hj0 : (0 : Int) ≤ j := by omega
            have hjn : (j : Int) < nl := by omega
            have ej : IntKind.i64.wrap ((i : Int) - 1) = (j : Int) := by rw [IntKind.wrap_i64]; omega
            have ej2 : (i : Int) - 1 = (j : Int) := by omega
            clear hin hX r1 r2 hip hlt hup hZ hij
            go_wp2_with fail
            go_quiet (fail)
            clear ej2
            go_wp2_with fail
            go_roundw
            case rel => exact ⟨i + 1, by omega, by go_num, below_drewN hbel _⟩
            case measure => simp [intOf]; omega
        · obtain rfl : i = nl := by omega
          have hx5 : ¬ ((i : Int) < (i : Int)) := by omega
          have hpos : cm = true → (0 : Int) < i := fun g => by have := HNS.out g; omega
          cases cm
          · clear hpos
            go_wp2_with fail
            go_ret
            exact ⟨by simp, bel_on b0.out (bel_on K5.out hbel)⟩
          · have hpos' := hpos rfl
            clear hpos
            go_wp2_with fail
            go_ret
            exact ⟨by simp; omega, bel_on b0.out (bel_on K5.out hbel)⟩
  · have hok2 : s.ok = false := by simpa using hok
    have HCP : Hid (∀ W, Below w.heap.size w W → Calls Tryz.prog 61 #[.agg s.cs.toArray] W fun e w' => e = .returned (.tuple #[.bool (cmpSt s).1, .int .i64 (cmpSt s).2]) ∧ Below W.heap.size W w') := fun W hW => Complete_any s W (h.below hW)
    rw [hok2] at HVS
    generalize cmpSt s = cm at *
    generalize s.cs.toArray = cs at *
    clear hok hok2 hW0 h h0 hy hy0 hk hyl
    go_enter Tryz.func15, Tryz.ntmps15
    go_wp2_with (rw [← HW0.out])
    refine (alive_any _).mono ?_
    rintro e w1 ⟨rfl, hb1⟩
    have K1 : Hid (Below w.heap.size w w1) := bel_on K0.out hb1
    clear hb1
    go_wp2_with (refine wpList_load_row rfl 29 (.tmp 2) rfl w0.heap.size rfl 29 cs (0, 0) _ (HX.out _ K1.out) Tryz.underlying29 rfl HIN.out ?_)
    refine (HCP.out _ K1.out).mono ?_
    rintro e w2 ⟨rfl, hb2⟩
    have K2 : Hid (Below w.heap.size w w2) := bel_on K1.out hb2
    clear hb2
    go_wp2_with (refine wpList_load_row rfl 29 (.tmp 2) rfl w0.heap.size rfl 29 cs (0, 0) _ (HX.out _ K2.out) Tryz.underlying29 rfl HIN.out ?_)
    refine (HVS.out _ K2.out).mono ?_
    rintro e w3 ⟨rfl, hb3⟩
    have K3 : Hid (Below w.heap.size w w3) := bel_on K2.out hb3
    clear hb3
    go_wp2_with fail
    go_ret
    exact ⟨by simp, bel_on b0.out K3.out⟩
theorem codeComplete_walk (s : StV) (Y : Option Addr) (d : Nat) (y : List UInt8) (w : World) (h : StOK w s) (hy : BR w Y d y) :
    Calls Tryz.prog 15 #[.agg s.cs.toArray, .slice Y y.length d] w fun e w' => e = .returned (.bool true) ∧ Below w.heap.size w w' := codeComplete_walk0 s Y d y w h hy
end Go.Proofs.YtenpkmgbaajeeaaGreat
