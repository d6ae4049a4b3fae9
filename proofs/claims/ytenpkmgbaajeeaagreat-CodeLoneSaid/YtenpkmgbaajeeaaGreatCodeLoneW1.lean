/-
  Lemmas and contracts, joined.
-/
import Derived.Deep.QuietTactic
import Derived.BigQuiet
import Derived.Test.YtenpkmgbaajeeaaGreatCc1
import Derived.Test.YtenpkmgbaajeeaaGreatCp1
import Derived.Test.YtenpkmgbaajeeaaGreatCa2
import Derived.Test.YtenpkmgbaajeeaaGreatCa1
set_option linter.unusedSimpArgs false
set_option linter.unusedVariables false
set_option linter.unnecessarySimpa false
/- Whether a code of steps is complete: the reference's, and both for any code. -/
namespace Go.Proofs.YtenpkmgbaajeeaaGreat
open Go.RowKit
set_option linter.unusedVariables false
set_option linter.unusedSimpArgs false

def thL (t : Nat → Int) (n : Nat) : List Int := (List.range n).map t
theorem thL_length (t : Nat → Int) (n : Nat) : (thL t n).length = n := by simp [thL]
theorem thL_succ (t : Nat → Int) (n : Nat) : thL t (n + 1) = thL t n ++ [t n] := by simp [thL, List.range_succ]
theorem thL_it {t : Nat → Int} {n i : Nat} (h : i < n) : it (thL t n) i = t i := by rw [it_in (by rw [thL_length]; exact h)]; simp [thL]
theorem mayS_or {d : Nat} {t : Nat → Int} {j v x : Nat} : (decide (∃ u, u < v ∧ mayS d t j u = true ∧ t (u + x) < (u : Int)) || (mayS d t j v && decide (t (v + x) < (v : Int)))) = decide (∃ u, u < v + 1 ∧ mayS d t j u = true ∧ t (u + x) < (u : Int)) := by
  rw [Bool.eq_iff_iff, Bool.or_eq_true, Bool.and_eq_true, decide_eq_true_eq, decide_eq_true_eq, decide_eq_true_eq]
  constructor
  · rintro (⟨u, h1, h2, h3⟩ | ⟨h1, h2⟩)
    · exact ⟨u, by omega, h2, h3⟩
    · exact ⟨v, by omega, h1, h2⟩
  · rintro ⟨u, h1, h2, h3⟩
    by_cases e : u = v
    · subst e; exact .inr ⟨h2, h3⟩
    · exact .inl ⟨u, by omega, h2, h3⟩
theorem mayS_fin {d : Nat} {t : Nat → Int} {j x : Nat} : decide (∃ u, u < d + 1 ∧ mayS d t j u = true ∧ t (u + x) < (u : Int)) = mayS d t (j + 1) x := by
  rw [mayS, decide_eq_decide]
  constructor
  · rintro ⟨v, hv, h1, h3⟩; exact ⟨v, by omega, h1, h3⟩
  · rintro ⟨v, hv, h1, h3⟩; exact ⟨v, by omega, h1, h3⟩
/-- What the next block may weigh, the first v weights of this one looked at. -/
def nextQ (d : Nat) (t : Nat → Int) (j v x : Nat) : Bool := decide (∃ u, u < v ∧ mayS d t j u = true ∧ t (u + x) < (u : Int))
end Go.Proofs.YtenpkmgbaajeeaaGreat

/- The law CodeTails: the walk. -/
namespace Go.Proofs.YtenpkmgbaajeeaaGreat
open Go.RowKit
set_option linter.unusedVariables false
set_option linter.unusedSimpArgs false

theorem frac2_open_ {W w' : World} {e : Ending} {r : (List Nat × List Nat) × Int} (h : Frac2 W w' e r) : ∃ X x Z z, e = .returned (.tuple #[.agg #[.slice X r.1.1.length x, .slice Z r.1.2.length z], .int .i64 r.2]) ∧ NR w' X x r.1.1 ∧ NR w' Z z r.1.2 ∧ Below W.heap.size W w' := by
  obtain ⟨v, rfl, X, x, Z, z, rfl, h1, h2, _, hb⟩ := h
  exact ⟨X, x, Z, z, rfl, h1.nr_, h2.nr_, hb⟩
set_option maxHeartbeats 8000000 in
set_option maxRecDepth 100000 in
theorem Complete_any (s : StV) (w : World) (h : StOK w s) :
    Calls Tryz.prog 61 #[.agg s.cs.toArray] w fun e w' => e = .returned (.tuple #[.bool (cmpSt s).1, .int .i64 (cmpSt s).2]) ∧ Below w.heap.size w w' := by
  cases hok : s.ok with
  | true =>
    have := complete_good s w h hok
    unfold cmpSt
    rw [hok]
    exact this
  | false =>
    have HCK : Hid (∀ W, Below w.heap.size w W → Calls Tryz.prog 21 #[.agg s.cs.toArray] W fun e w' => e = .returned (.int .i64 (ckSt s.ok)) ∧ Below W.heap.size W w') := fun W hW => CheckSteps_any s W (h.below hW)
    have hks := h.k16
    obtain ⟨W0, hW0⟩ : ∃ W : World, W = w.alloc (.cells s.cs.toArray 29) := ⟨_, rfl⟩
    have b0 : Hid (Below w.heap.size w W0) := by unfold Hid; rw [hW0]; exact alloc_below _ _
    have x0 : Hid (Blk W0 w.heap.size 29 s.cs.toArray) := by unfold Hid; rw [hW0]; exact Blk.new w _ _
    have HW0 := Lib.hid hW0
    have HIN := Lib.hid (StV.info (s := s) hks)
    have HS : Hid (cmpSt s = (false, 70)) := by unfold Hid cmpSt; rw [hok]; rfl
    rw [hok] at HCK
    rw [HS.out]
    generalize s.cs.toArray = cs at *
    clear hW0 h hks hok
    go_enter Tryz.func61, Tryz.ntmps61
    go_wp2_with (first
      | (rw [← HW0.out])
      | (refine wpList_load_row rfl 29 (.tmp 1) rfl (w.heap.size) rfl 29 cs (0, 0) _ x0.out Tryz.underlying29 rfl HIN.out ?_)
      | (go_at_call 21; (with_reducible refine (HCK.out _ b0.out).mono ?_); rintro e w1 ⟨rfl, hb⟩; have D1 := Lib.hid (bel_on b0.out hb); clear hb; simp only [ckSt]))
    go_ret2
    exact ⟨rfl, D1.out⟩
end Go.Proofs.YtenpkmgbaajeeaaGreat

/- The law CodeThreshold: the walk. -/
namespace Go.Proofs.YtenpkmgbaajeeaaGreat
open Go.RowKit
set_option linter.unusedVariables false
set_option linter.unusedSimpArgs false

theorem bin_sm {d : Nat} (h : d ≤ 64) : Sm (bin (2 * d) d) := sm_bin (by omega)
theorem bin_ne (d : Nat) : bin (2 * d) d ≠ 0 := by have := bin_pos (a := 2 * d) (b := d) (by omega); omega
theorem divs_sm {d k X : Nat} (hd : d ≤ 64) (hk : k ≤ 2 * d) (hX : X ≤ k + 1) : Sm (divsN d k X) := (bin_sm hd).mono (by have := divsN_sym hk hX; omega)
/-- The tail of the threshold is at most the limit, and that of the next number is above it. -/
theorem thr_tails {s : StV} (hok : s.ok = true) {d K : Nat} (hd : s.b = (d : Int)) (hK : K ≤ 2 * d) : ∃ X : Nat, s.th K + 1 = (X : Int) ∧ X + 1 ≤ K + 1 ∧ -1 ≤ s.th K ∧ s.th K < K ∧
    cmpFS (lowS (divsN d K X) (bin (2 * d) d)).1 (lowS (divsN d K X) (bin (2 * d) d)).2 s.x s.y = (cmpN (divsN d K X * val s.y) (val s.x * bin (2 * d) d), 0) ∧ cmpN (divsN d K X * val s.y) (val s.x * bin (2 * d) d) ≤ 0 ∧
    cmpFS (lowS (divsN d K (X + 1)) (bin (2 * d) d)).1 (lowS (divsN d K (X + 1)) (bin (2 * d) d)).2 s.x s.y = (cmpN (divsN d K (X + 1) * val s.y) (val s.x * bin (2 * d) d), 0) ∧ 0 < cmpN (divsN d K (X + 1) * val s.y) (val s.x * bin (2 * d) d) := by
  obtain ⟨⟨q1, q2, q3, q4⟩, hl⟩ := StV.parts hok
  obtain ⟨hv, h2, h3, h4⟩ := limB_iff.1 hl
  have e : s.th K = thS d K (val s.x) (val s.y) := by unfold StV.th; rw [hd, Int.toNat_natCast]
  have h5 := thS_ge d K (val s.x) (val s.y)
  have h6 := thS_lt hK h4
  have h7 := thS_over h6
  rw [e]
  obtain ⟨X, hX⟩ : ∃ X : Nat, thS d K (val s.x) (val s.y) + 1 = (X : Int) := ⟨(thS d K (val s.x) (val s.y) + 1).toNat, by omega⟩
  rw [show (thS d K (val s.x) (val s.y) + 2).toNat = X + 1 from by omega] at h7
  refine ⟨X, hX, by omega, h5, h6, low_cmp (bin_ne d) (divs_sm (by omega) hK (by omega)) (bin_sm (by omega)) hv, cmpN_le0.2 ?_, low_cmp (bin_ne d) (divs_sm (by omega) hK (by omega)) (bin_sm (by omega)) hv, cmpN_gt0.2 h7⟩
  cases X with
  | zero => simp [divsN, sumN]
  | succ X => exact thS_under (by omega)
set_option maxHeartbeats 8000000 in
set_option maxRecDepth 100000 in
theorem codeThreshold_walk0 (s : StV) (k : Int) (w0 : World) (h0 : StOK w0 s) (hk1 : -9223372036854775808 ≤ k) (hk2 : k ≤ 9223372036854775807) :
    Calls Tryz.prog 10 #[.agg s.cs.toArray, .int .i64 k] w0 fun e w' => e = .returned (.bool true) ∧ Below w0.heap.size w0 w' := by
  have hk := h0.k16
  obtain ⟨w, hW0⟩ : ∃ W : World, W = w0.alloc (.cells s.cs.toArray 29) := ⟨_, rfl⟩
  have b0 : Hid (Below w0.heap.size w0 w) := by unfold Hid; rw [hW0]; exact alloc_bel _ _
  have x0 : Hid (Blk w w0.heap.size 29 s.cs.toArray) := by unfold Hid; rw [hW0]; exact Blk.new w0 _ _
  have h := h0.below b0.out
  have HW0 := Lib.hid hW0
  have HIN := Lib.hid (StV.info (s := s) hk)
  have K0 : Hid (Below w.heap.size w w) := Below.refl _ _
  have HX : Hid (∀ W, Below w.heap.size w W → Blk W w0.heap.size 29 s.cs.toArray) := fun W hW => x0.out.below' hW
  have HTH : Hid (∀ W, Below w.heap.size w W → Calls Tryz.prog 50 #[.agg s.cs.toArray, .int .i64 k] W fun e w' => e = .returned (.tuple #[.int .i64 (thrS s k).1, .int .i64 (thrS s k).2]) ∧ Below W.heap.size W w') := fun W hW => Threshold_any s k W (h.below hW)
  have HVS : Hid (∀ W, Below w.heap.size w W → Calls Tryz.prog 43 #[.agg s.cs.toArray] W fun e w' => e = .returned (.bool s.ok) ∧ Below W.heap.size W w') := fun W hW => refValidSteps_any s W (h.below hW)
  by_cases hok : s.ok = true
  · obtain ⟨⟨q1, q2, q3, q4⟩, -⟩ := StV.parts hok
    obtain ⟨D, hD⟩ : ∃ D : Nat, s.b = (D : Int) := ⟨s.b.toNat, by omega⟩
    have HCL : Hid (∀ W, Below w.heap.size w W → W.cell? ⟨w0.heap.size, 0, none⟩ = some (.int .i64 s.u) ∧ W.cell? ⟨w0.heap.size, 1, none⟩ = some (.int .i64 (D : Int)) ∧ W.cell? ⟨w0.heap.size, 18, none⟩ = some (.slice s.A s.x.length s.ca) ∧ W.cell? ⟨w0.heap.size, 19, none⟩ = some (.slice s.Bd s.y.length s.cb)) := fun W hW => by
      have := StV.cells hk (x0.out.below' hW)
      rw [hD] at this
      exact this
    by_cases hr : k < 0 ∨ 2 * s.b < k
    · have e1 : thrS s k = (0, 2) := by unfold thrS; rw [if_pos hok, if_pos hr]
      rw [e1] at HTH
      rw [hok] at HVS
      rw [hD] at hr
      have hD64 : (D : Int) ≤ 64 := by omega
      generalize s.cs.toArray = cs at *
      clear hok hW0 h h0 hk q1 q2 q3 q4
      go_enter Tryz.func10, Tryz.ntmps10
      go_wp2_with (rw [← HW0.out])
      refine (alive_any _).mono ?_
      rintro e w1 ⟨rfl, hb1⟩
      have K1 : Hid (Below w.heap.size w w1) := hb1
      have X1 := Lib.hid (HX.out _ K1.out)
      clear hb1
      go_wp2_with (refine wpList_load_row rfl 29 (.tmp 2) rfl w0.heap.size rfl 29 cs (0, 0) _ X1.out Tryz.underlying29 rfl HIN.out ?_)
      refine (HTH.out _ K1.out).mono ?_
      rintro e w2 ⟨rfl, hb2⟩
      have K2 : Hid (Below w.heap.size w w2) := bel_on K1.out hb2
      have X2 := Lib.hid (HX.out _ K2.out)
      clear hb2
      go_wp2_with (refine wpList_load_row rfl 29 (.tmp 2) rfl w0.heap.size rfl 29 cs (0, 0) _ X2.out Tryz.underlying29 rfl HIN.out ?_)
      refine (HVS.out _ K2.out).mono ?_
      rintro e w3 ⟨rfl, hb3⟩
      have K3 : Hid (Below w.heap.size w w3) := bel_on K2.out hb3
      obtain ⟨-, c1, -, -⟩ := HCL.out _ K3.out
      clear hb3
      by_cases hk0 : k < 0
      · go_wp2_with fail
        go_ret
        exact ⟨by simp, bel_on b0.out K3.out⟩
      · have hk3 : 2 * (D : Int) < k := by omega
        go_wp2_with fail
        go_ret
        exact ⟨by simp, bel_on b0.out K3.out⟩
    · obtain ⟨K, rfl⟩ : ∃ K : Nat, k = (K : Int) := ⟨k.toNat, by omega⟩
      have e1 : thrS s K = (s.th K, 0) := by unfold thrS; rw [if_pos hok, if_neg hr, Int.toNat_natCast]
      obtain ⟨X, hX, hXK, t1, t2, r1, r2, r3, r4⟩ := thr_tails hok hD (show K ≤ 2 * D by omega)
      have u1 := tailS_yes hX (show 1 ≤ D by omega) (by omega) (show K ≤ 2 * D by omega) (show X ≤ K + 1 by omega)
      have u2 := tailS_yes (show s.th K + 1 + 1 = ((X + 1 : Nat) : Int) by omega) (show 1 ≤ D by omega) (by omega) (show K ≤ 2 * D by omega) hXK
      rw [e1] at HTH
      rw [hok] at HVS
      have HCM1 : Hid (∀ W A a B b, Below w.heap.size w W → NR W A a (lowS (divsN D K X) (bin (2 * D) D)).1 → NR W B b (lowS (divsN D K X) (bin (2 * D) D)).2 → Calls Tryz.prog 54 #[.agg #[.slice A (lowS (divsN D K X) (bin (2 * D) D)).1.length a, .slice B (lowS (divsN D K X) (bin (2 * D) D)).2.length b], .agg #[.slice s.A s.x.length s.ca, .slice s.Bd s.y.length s.cb]] W fun e w' => e = .returned (.tuple #[.int .i64 (cmpN (divsN D K X * val s.y) (val s.x * bin (2 * D) D)), .int .i64 0]) ∧ Below W.heap.size W w') := fun W A a B b hW g1 g2 => (CompareFractions_any A a _ B b _ s.A s.ca s.x s.Bd s.cb s.y W rfl rfl rfl rfl g1 g2 (h.hx.below hW) (h.hy.below hW)).mono fun e w' hq => by
        rw [r1] at hq
        exact hq
      have HCM2 : Hid (∀ W A a B b, Below w.heap.size w W → NR W A a (lowS (divsN D K (X + 1)) (bin (2 * D) D)).1 → NR W B b (lowS (divsN D K (X + 1)) (bin (2 * D) D)).2 → Calls Tryz.prog 54 #[.agg #[.slice A (lowS (divsN D K (X + 1)) (bin (2 * D) D)).1.length a, .slice B (lowS (divsN D K (X + 1)) (bin (2 * D) D)).2.length b], .agg #[.slice s.A s.x.length s.ca, .slice s.Bd s.y.length s.cb]] W fun e w' => e = .returned (.tuple #[.int .i64 (cmpN (divsN D K (X + 1) * val s.y) (val s.x * bin (2 * D) D)), .int .i64 0]) ∧ Below W.heap.size W w') := fun W A a B b hW g1 g2 => (CompareFractions_any A a _ B b _ s.A s.ca s.x s.Bd s.cb s.y W rfl rfl rfl rfl g1 g2 (h.hx.below hW) (h.hy.below hW)).mono fun e w' hq => by
        rw [r3] at hq
        exact hq
      obtain ⟨z1, hz1⟩ : ∃ z, cmpN (divsN D K X * val s.y) (val s.x * bin (2 * D) D) = z := ⟨_, rfl⟩
      obtain ⟨z2, hz2⟩ : ∃ z, cmpN (divsN D K (X + 1) * val s.y) (val s.x * bin (2 * D) D) = z := ⟨_, rfl⟩
      rw [hz1] at HCM1 r2
      rw [hz2] at HCM2 r4
      obtain ⟨th, hth⟩ : ∃ q, s.th K = q := ⟨_, rfl⟩
      rw [hth] at HTH t1 t2 u1 u2
      have HT1 : Hid (∀ W, Calls Tryz.prog 55 #[.int .i64 (D : Int), .int .i64 (K : Int), .int .i64 th] W fun e w' => ∃ X x' Z z, e = .returned (.tuple #[.agg #[.slice X (tailS (D : Int) (K : Int) th).1.1.length x', .slice Z (tailS (D : Int) (K : Int) th).1.2.length z], .int .i64 (tailS (D : Int) (K : Int) th).2]) ∧ NR w' X x' (tailS (D : Int) (K : Int) th).1.1 ∧ NR w' Z z (tailS (D : Int) (K : Int) th).1.2 ∧ Below W.heap.size W w') := fun W => (Tail_any (D : Int) (K : Int) th W).mono fun e w' h => frac2_open_ h
      have HT2 : Hid (∀ W, Calls Tryz.prog 55 #[.int .i64 (D : Int), .int .i64 (K : Int), .int .i64 (th + 1)] W fun e w' => ∃ X x' Z z, e = .returned (.tuple #[.agg #[.slice X (tailS (D : Int) (K : Int) (th + 1)).1.1.length x', .slice Z (tailS (D : Int) (K : Int) (th + 1)).1.2.length z], .int .i64 (tailS (D : Int) (K : Int) (th + 1)).2]) ∧ NR w' X x' (tailS (D : Int) (K : Int) (th + 1)).1.1 ∧ NR w' Z z (tailS (D : Int) (K : Int) (th + 1)).1.2 ∧ Below W.heap.size W w') := fun W => (Tail_any (D : Int) (K : Int) (th + 1) W).mono fun e w' h => frac2_open_ h
      rw [u1] at HT1
      rw [u2] at HT2
      dsimp only at HT1 HT2
      have g1 : ¬ ((K : Int) < 0) := by omega
      have g2 : ¬ (2 * (D : Int) < (K : Int)) := by omega
      have g3 : (D : Int) ≤ 64 := by omega
      have g4 : (K : Int) ≤ 128 := by omega
      have g5 : th ≤ 128 := by omega
      generalize (lowS (divsN D K X) (bin (2 * D) D)) = l1 at *
      generalize (lowS (divsN D K (X + 1)) (bin (2 * D) D)) = l2 at *
      obtain ⟨l1a, l1b⟩ := l1
      obtain ⟨l2a, l2b⟩ := l2
      dsimp only at *
      generalize l1a.length = n1a at *
      generalize l1b.length = n1b at *
      generalize l2a.length = n2a at *
      generalize l2b.length = n2b at *
      generalize s.x.length = lx at *
      generalize s.y.length = ly at *
      generalize s.cs.toArray = cs at *
      clear hok hW0 h h0 hk q1 q2 q3 q4 hr hX hXK r1 r3 u1 u2 hz1 hz2 hth e1
      go_enter Tryz.func10, Tryz.ntmps10
      go_wp2_with (rw [← HW0.out])
      refine (alive_any _).mono ?_
      rintro e w1 ⟨rfl, hb1⟩
      have K1 : Hid (Below w.heap.size w w1) := hb1
      have X1 := Lib.hid (HX.out _ K1.out)
      clear hb1
      go_wp2_with (refine wpList_load_row rfl 29 (.tmp 2) rfl w0.heap.size rfl 29 cs (0, 0) _ X1.out Tryz.underlying29 rfl HIN.out ?_)
      refine (HTH.out _ K1.out).mono ?_
      rintro e w2 ⟨rfl, hb2⟩
      have K2' : Hid (Below w.heap.size w w2) := bel_on K1.out hb2
      have X2 := Lib.hid (HX.out _ K2'.out)
      clear hb2
      go_wp2_with (refine wpList_load_row rfl 29 (.tmp 2) rfl w0.heap.size rfl 29 cs (0, 0) _ X2.out Tryz.underlying29 rfl HIN.out ?_)
      refine (HVS.out _ K2'.out).mono ?_
      rintro e w2b ⟨rfl, hb2⟩
      have K2 : Hid (Below w.heap.size w w2b) := bel_on K2'.out hb2
      obtain ⟨-, c1, -, -⟩ := HCL.out _ K2.out
      clear hb2
      go_wp2_with fail
      clear c1
      refine (HT1.out _).mono ?_
      rintro e w3 ⟨X3, x3, Z3, z3, rfl, gx3, gz3, hb3⟩
      obtain ⟨w3b, hw3⟩ : ∃ W, W = w3.alloc (.cells #[.slice X3 n1a x3, .slice Z3 n1b z3] 27) := ⟨_, rfl⟩
      have d3 : Below w3.heap.size w3 w3b := by rw [hw3]; exact alloc_bel _ _
      have hbb3 := bel_on hb3 d3
      have K3 : Hid (Below w.heap.size w w3b) := bel_on K2.out hbb3
      have T3 : Hid (Blk w3b w3.heap.size 27 #[.slice X3 n1a x3, .slice Z3 n1b z3]) := by unfold Hid; rw [hw3]; exact Blk.new _ _ _
      have GX3 := Lib.hid (gx3.below d3)
      have GZ3 := Lib.hid (gz3.below d3)
      have HW3 := Lib.hid hw3
      clear hw3 d3 hbb3 hb3 gx3 gz3
      have q0 := T3.out.cell 0
      have q1 := T3.out.cell 1
      obtain ⟨c0, c1, c18, c19⟩ := HCL.out _ K3.out
      go_wp2_with (rw [← HW3.out])
      refine (HCM1.out _ _ _ _ _ K3.out GX3.out GZ3.out).mono ?_
      rintro e w4 ⟨rfl, hb4⟩
      have K4 : Hid (Below w.heap.size w w4) := bel_on K3.out hb4
      clear hb4 q0 q1 c0 c1 c18 c19
      obtain ⟨-, c1, -, -⟩ := HCL.out _ K4.out
      go_wp2_with fail
      clear c1
      refine (HT2.out _).mono ?_
      rintro e w5 ⟨X5, x5, Z5, z5, rfl, gx5, gz5, hb5⟩
      obtain ⟨w5b, hw5⟩ : ∃ W, W = w5.alloc (.cells #[.slice X5 n2a x5, .slice Z5 n2b z5] 27) := ⟨_, rfl⟩
      have d5 : Below w5.heap.size w5 w5b := by rw [hw5]; exact alloc_bel _ _
      have hbb5 := bel_on hb5 d5
      have K5 : Hid (Below w.heap.size w w5b) := bel_on K4.out hbb5
      have T5 : Hid (Blk w5b w5.heap.size 27 #[.slice X5 n2a x5, .slice Z5 n2b z5]) := by unfold Hid; rw [hw5]; exact Blk.new _ _ _
      have GX5 := Lib.hid (gx5.below d5)
      have GZ5 := Lib.hid (gz5.below d5)
      have HW5 := Lib.hid hw5
      clear hw5 d5 hbb5 hb5 gx5 gz5
      have q0 := T5.out.cell 0
      have q1 := T5.out.cell 1
      obtain ⟨c0, c1, c18, c19⟩ := HCL.out _ K5.out
      go_wp2_with (rw [← HW5.out])
      refine (HCM2.out _ _ _ _ _ K5.out GX5.out GZ5.out).mono ?_
      rintro e w6 ⟨rfl, hb6⟩
      have K6 : Hid (Below w.heap.size w w6) := bel_on K5.out hb6
      clear hb6 q0 q1 c0 c1 c18 c19
      go_wp2_with fail
      go_ret
      exact ⟨by simp, bel_on b0.out K6.out⟩
  · have hok2 : s.ok = false := by simpa using hok
    have e1 : thrS s k = (0, 70) := by unfold thrS; rw [if_neg hok]
    rw [e1] at HTH
    rw [hok2] at HVS
    generalize s.cs.toArray = cs at *
    clear hok hok2 hW0 h h0 hk
    go_enter Tryz.func10, Tryz.ntmps10
    go_wp2_with (rw [← HW0.out])
    refine (alive_any _).mono ?_
    rintro e w1 ⟨rfl, hb1⟩
    have K1 : Hid (Below w.heap.size w w1) := hb1
    have X1 := Lib.hid (HX.out _ K1.out)
    clear hb1
    go_wp2_with (refine wpList_load_row rfl 29 (.tmp 2) rfl w0.heap.size rfl 29 cs (0, 0) _ X1.out Tryz.underlying29 rfl HIN.out ?_)
    refine (HTH.out _ K1.out).mono ?_
    rintro e w2 ⟨rfl, hb2⟩
    have K2 : Hid (Below w.heap.size w w2) := bel_on K1.out hb2
    have X2 := Lib.hid (HX.out _ K2.out)
    clear hb2
    go_wp2_with (refine wpList_load_row rfl 29 (.tmp 2) rfl w0.heap.size rfl 29 cs (0, 0) _ X2.out Tryz.underlying29 rfl HIN.out ?_)
    refine (HVS.out _ K2.out).mono ?_
    rintro e w3 ⟨rfl, hb3⟩
    have K3 : Hid (Below w.heap.size w w3) := bel_on K2.out hb3
    clear hb3
    go_wp2_with fail
    go_ret
    exact ⟨by simp, bel_on b0.out K3.out⟩
theorem codeThreshold_walk (s : StV) (k : Int) (w : World) (h : StOK w s) (h1 : -9223372036854775808 ≤ k) (h2 : k ≤ 9223372036854775807) :
    Calls Tryz.prog 10 #[.agg s.cs.toArray, .int .i64 k] w fun e w' => e = .returned (.bool true) ∧ Below w.heap.size w w' := codeThreshold_walk0 s k w h h1 h2
end Go.Proofs.YtenpkmgbaajeeaaGreat

/- A lone pirate, in plain words. -/
namespace Go.Proofs.YtenpkmgbaajeeaaGreat
open Go.RowKit
set_option linter.unusedVariables false
set_option linter.unusedSimpArgs false

theorem it_nat (l : List Nat) (i : Nat) : it (natI l) i = ((l.getD i 0 : Nat) : Int) := by
  unfold it natI
  rw [List.getD_eq_getElem?_getD, List.getD_eq_getElem?_getD, List.getElem?_map]
  cases l[i]? <;> rfl
theorem StV.word_bit (s : StV) (x i : Nat) : bt (s.word x) i ≤ 1 := wordF_bit _ _ _ _ _
theorem StV.word_cp (s : StV) (x : Nat) : copyB (s.word x) s.n = true := by
  unfold copyB
  rw [Bool.and_eq_true, decide_eq_true_eq]
  exact ⟨s.word_len x, symB_iff.2 fun i _ => Nat.le_trans (s.word_bit x i) (by omega)⟩
theorem ones_step (l : List UInt8) (i : Nat) (h : bt l i ≤ 1) : onesB l (i + 1) = onesB l i + bt l i := by
  unfold onesB
  rw [sumN_succ]
  congr 1
  unfold bt at h ⊢
  by_cases e : l.getD i 0 = 1
  · rw [if_pos e, e]; rfl
  · rw [if_neg e]
    have h2 : (l.getD i 0).toNat ≠ 1 := fun g => e (UInt8.toNat_inj.1 g)
    omega
theorem ones_le (l : List UInt8) : ∀ i, onesB l i ≤ i
  | 0 => Nat.le_refl _
  | i + 1 => by
    have := ones_le l i
    unfold onesB at this ⊢
    rw [sumN_succ]
    split <;> omega
theorem namesF_none {P : Nat → Bool} : ∀ {n : Nat}, (∀ x, x < n → P x = false) → namesF P n = []
  | 0, _ => rfl
  | n + 1, h => by rw [namesF_no (h n (by omega)), namesF_none fun x hx => h x (by omega)]
theorem namesF_one {P : Nat → Bool} {u : Nat} (h1 : P u = true) : ∀ {n : Nat}, u < n → (∀ x, x < n → x ≠ u → P x = false) → namesF P n = [(u : Int)]
  | 0, h, _ => absurd h (by omega)
  | n + 1, h, h2 => by
    by_cases e : n = u
    · subst e
      rw [namesF_yes h1, namesF_none fun x hx => h2 x (by omega) (by omega)]; rfl
    · rw [namesF_no (h2 n (by omega) e)]
      exact namesF_one h1 (by omega) fun x hx => h2 x (by omega)
theorem lone_ones {s : StV} (hok : s.ok = true) {d m : Nat} (hd : s.b = (d : Int)) (hn : s.n = m * d) (x : Nat) : onesB (s.word x) s.n = m * d - x * d := by
  obtain ⟨hn1, hn2, -⟩ := StV.n_le hok
  unfold StV.word
  rw [stepWord_ones (s.arr (by omega)) (arrS_perm fun i hi => s.num_le (by omega)), hd, Int.toNat_natCast, hn]
theorem lone_wts {s : StV} (hok : s.ok = true) {d m : Nat} (hd : s.b = (d : Int)) (hu : s.u = ((m + 1 : Nat) : Int)) (hn : s.n = m * d) (h1 : 1 ≤ d) (x : Nat) {b : Nat} (hb : b < m) : (s.wts (s.word x)).getD b 0 = if x ≤ b then d else 0 := by
  obtain ⟨hn1, hn2, -⟩ := StV.n_le hok
  have ha : ArrL s.at_ (m * d) := by rw [← hn]; exact s.arr (by omega)
  unfold StV.wts StV.word
  rw [hd, hu, Int.toNat_natCast, Int.toNat_natCast, Nat.add_sub_cancel, hn]
  exact word_weights ha (by omega) hb
theorem full_low {s : StV} (hok : s.ok = true) {d : Nat} (hd : s.b = (d : Int)) : s.th (2 * d) < d := by
  obtain ⟨⟨q1, q2, q3, q4⟩, hl⟩ := StV.parts hok
  obtain ⟨hv, h2, h3, h4⟩ := limB_iff.1 hl
  obtain ⟨X, hX, hX2, t1, t2, -, r2, -, -⟩ := thr_tails hok hd (show 2 * d ≤ 2 * d from Nat.le_refl _)
  apply Classical.byContradiction
  intro hno
  have hXd : d + 1 ≤ X := by omega
  have h5 : bin (2 * d) d ≤ divsN d (2 * d) X := by
    refine Nat.le_trans ?_ (sumN_mono _ hXd)
    rw [sumN_succ]
    have e : pick (2 * d) (2 * d - 2 * d) d d = bin (2 * d) d := by unfold pick; rw [if_pos (Nat.le_refl _), Nat.sub_self, Nat.sub_self, bin_zero, Nat.mul_one]
    rw [e]
    exact Nat.le_add_left _ _
  have h6 := cmpN_le0.1 r2
  have h7 : 0 < bin (2 * d) d := by have := bin_ne d; omega
  have h8 : bin (2 * d) d * val s.y ≤ val s.x * bin (2 * d) d := Nat.le_trans (Nat.mul_le_mul_right _ h5) h6
  rw [Nat.mul_comm (val s.x)] at h8
  have := Nat.le_of_mul_le_mul_left h8 h7
  omega
theorem lone_names {s : StV} (hok : s.ok = true) {d m : Nat} (hd : s.b = (d : Int)) (hu : s.u = ((m + 1 : Nat) : Int)) (hn : s.n = m * d) (h1 : 1 ≤ d) (hm : 1 ≤ m) {x : Nat} (hx : x ≤ m) (hth : 0 ≤ s.th d) : s.nms (s.word x) = [(x : Int)] := by
  obtain ⟨⟨q1, q2, q3, q4⟩, hl⟩ := StV.parts hok
  obtain ⟨hv, h2, h3, h4⟩ := limB_iff.1 hl
  have hw : ∀ b, b < m → (s.wts (s.word x)).getD b 0 = if x ≤ b then d else 0 := fun b hb => lone_wts hok hd hu hn h1 x hb
  have hfull := full_low hok hd
  have hzero : s.th 0 < 0 := by
    unfold StV.th
    exact thS_lt (by omega) h4
  unfold StV.th at hfull hzero hth
  rw [hd, Int.toNat_natCast] at hfull hzero hth
  unfold StV.nms StV.nmsW namesS
  rw [hu, hd, Int.toNat_natCast, Int.toNat_natCast]
  generalize s.wts (s.word x) = w at *
  have hP : ∀ y, y < m + 1 → namedB (m + 1) d (val s.x) (val s.y) w y = decide (y = x) := fun y hy => by
    unfold namedB
    by_cases e0 : y = 0
    · subst e0
      rw [if_pos rfl, hw 0 (by omega)]
      by_cases e : x = 0
      · subst e; simp; omega
      · rw [if_neg (by omega)]; simp; omega
    · rw [if_neg e0]
      by_cases e1 : y + 1 = m + 1
      · rw [if_pos e1, hw (y - 1) (by omega)]
        by_cases e : x ≤ y - 1
        · rw [if_pos e]; simp; omega
        · rw [if_neg e]; simp; omega
      · rw [if_neg e1, hw (y - 1) (by omega), hw y (by omega)]
        by_cases e : x ≤ y - 1
        · rw [if_pos e, if_pos (by omega), show d + d = 2 * d by omega, decide_eq_false (by omega), decide_eq_false (by omega)]
        · rw [if_neg e]
          by_cases e2 : x ≤ y
          · rw [if_pos e2, Nat.zero_add, decide_eq_true (by omega), decide_eq_true (by omega)]
          · rw [if_neg e2, Nat.zero_add, decide_eq_false (by omega), decide_eq_false (by omega)]
  exact namesF_one (by rw [hP x (by omega)]; simp) (by omega) fun y hy hne => by rw [hP y hy]; simp [hne]
end Go.Proofs.YtenpkmgbaajeeaaGreat

/- The law CodeEscapes: the walk. -/
namespace Go.Proofs.YtenpkmgbaajeeaaGreat
open Go.RowKit
set_option linter.unusedVariables false
set_option linter.unusedSimpArgs false

/-- A code of three users. -/
theorem three_users {s : StV} (hok : s.ok = true) (hu : s.u = 3) {d : Nat} (hd : s.b = (d : Int)) : s.cmp = decide (0 ≤ s.th d) ∧ s.nmsW [0, d] = (if 0 ≤ s.th d then [1] else []) := by
  constructor
  · unfold StV.cmp
    rw [hu, hd, Int.toNat_natCast, show (3 : Int).toNat - 2 = 1 from rfl, complete_three (num := 0) (den := 0)]
    by_cases g : s.th d < 0
    · rw [decide_eq_true g, decide_eq_false (by omega)]; rfl
    · rw [decide_eq_false g, decide_eq_true (by omega)]; rfl
  · unfold StV.nmsW namesS
    rw [hu, hd, Int.toNat_natCast, show (3 : Int).toNat = 3 from rfl]
    have e0 : namedB 3 d (val s.x) (val s.y) [0, d] 0 = false := by unfold namedB; rw [if_pos rfl]; rfl
    have e2 : namedB 3 d (val s.x) (val s.y) [0, d] 2 = false := by unfold namedB; rw [if_neg (by omega), if_pos rfl]; simp
    have e1 : namedB 3 d (val s.x) (val s.y) [0, d] 1 = decide (0 ≤ s.th d) := by
      unfold namedB StV.th
      rw [if_neg (by omega), if_neg (by omega), hd, Int.toNat_natCast]
      simp
    rw [show (3 : Nat) = 2 + 1 from rfl, namesF_no e2, namesF, namesF_no e0, e1]
    by_cases g : 0 ≤ s.th d
    · simp [g, namesF]
    · simp [g, namesF]
theorem esc_cmp {s : StV} (hok : s.ok = true) {d : Nat} (hd : s.b = (d : Int)) : cmpFS (lowS (divsN d d 1) (bin (2 * d) d)).1 (lowS (divsN d d 1) (bin (2 * d) d)).2 s.x s.y = (cmpN (divsN d d 1 * val s.y) (val s.x * bin (2 * d) d), 0) ∧ (cmpN (divsN d d 1 * val s.y) (val s.x * bin (2 * d) d) ≤ 0 ↔ 0 ≤ s.th d) := by
  obtain ⟨⟨q1, q2, q3, q4⟩, hl⟩ := StV.parts hok
  obtain ⟨hv, h2, h3, h4⟩ := limB_iff.1 hl
  refine ⟨low_cmp (bin_ne d) (divs_sm (by omega) (by omega) (by omega)) (bin_sm (by omega)) hv, ?_⟩
  rw [cmpN_le0]
  have h5 := thS_neg d d (val s.x) (val s.y)
  have e : s.th d = thS d d (val s.x) (val s.y) := by unfold StV.th; rw [hd, Int.toNat_natCast]
  rw [e]
  unfold underB at h5
  rw [decide_eq_false_iff_not] at h5
  constructor
  · intro g
    rcases Int.lt_or_le (thS d d (val s.x) (val s.y)) 0 with g2 | g2
    · exact absurd g (h5.1 g2)
    · exact g2
  · intro g
    apply Classical.byContradiction
    intro g2
    have := h5.2 g2
    omega
theorem ints_lit3 (w : World) (d : Nat) (hd : d ≤ 1000) {W : World} (hW : W = w.alloc (.cells #[.int .i64 0, .int .i64 (d : Int)] 3)) : IR W (some ⟨w.heap.size, 0, none⟩) 2 (natI [0, d]) ∧ Below w.heap.size w W := by
  refine ints_lit1 w (natI [0, d]) (na := 2) rfl (by omega) (fun x hx => ?_) hW
  simp [natI] at hx
  omega
set_option maxHeartbeats 8000000 in
set_option maxRecDepth 100000 in
theorem codeEscapes_walk0 (s : StV) (w0 : World) (h0 : StOK w0 s) :
    Calls Tryz.prog 16 #[.agg s.cs.toArray] w0 fun e w' => e = .returned (.bool true) ∧ Below w0.heap.size w0 w' := by
  have hk := h0.k16
  obtain ⟨w, hW0⟩ : ∃ W : World, W = w0.alloc (.cells s.cs.toArray 29) := ⟨_, rfl⟩
  have b0 : Hid (Below w0.heap.size w0 w) := by unfold Hid; rw [hW0]; exact alloc_bel _ _
  have HX : Hid (∀ W, Below w.heap.size w W → Blk W w0.heap.size 29 s.cs.toArray) := fun W hW => Blk.below' (by rw [hW0]; exact Blk.new w0 _ _) hW
  have h := h0.below b0.out
  have HW0 := Lib.hid hW0
  have HIN := Lib.hid (StV.info (s := s) hk)
  have K0 : Hid (Below w.heap.size w w) := Below.refl _ _
  have HVS : Hid (∀ W, Below w.heap.size w W → Calls Tryz.prog 43 #[.agg s.cs.toArray] W fun e w' => e = .returned (.bool s.ok) ∧ Below W.heap.size W w') := fun W hW => refValidSteps_any s W (h.below hW)
  by_cases hok : s.ok = true
  · obtain ⟨⟨q1, q2, q3, q4⟩, -⟩ := StV.parts hok
    obtain ⟨D, hD⟩ : ∃ D : Nat, s.b = (D : Int) := ⟨s.b.toNat, by omega⟩
    have HCL : Hid (∀ W, Below w.heap.size w W → W.cell? ⟨w0.heap.size, 0, none⟩ = some (.int .i64 s.u) ∧ W.cell? ⟨w0.heap.size, 1, none⟩ = some (.int .i64 (D : Int)) ∧ W.cell? ⟨w0.heap.size, 18, none⟩ = some (.slice s.A s.x.length s.ca) ∧ W.cell? ⟨w0.heap.size, 19, none⟩ = some (.slice s.Bd s.y.length s.cb)) := fun W hW => by
      have := StV.cells hk (HX.out W hW)
      rw [hD] at this
      exact this
    have HCP : Hid (∀ W, Below w.heap.size w W → Calls Tryz.prog 61 #[.agg s.cs.toArray] W fun e w' => e = .returned (.tuple #[.bool s.cmp, .int .i64 0]) ∧ Below W.heap.size W w') := fun W hW => complete_good s W (h.below hW) hok
    rw [hok] at HVS
    by_cases hgt : 3 < s.u
    · obtain ⟨u, hu⟩ : ∃ u, s.u = u := ⟨_, rfl⟩
      rw [hu] at HCL hgt
      generalize s.cs.toArray = cs at *
      clear hok hW0 h h0 hk q1 q2 q3 q4 HCP hu
      go_enter Tryz.func16, Tryz.ntmps16
      go_wp2_with (rw [← HW0.out])
      refine (alive_any _).mono ?_
      rintro e w1 ⟨rfl, hb1⟩
      have K1 : Hid (Below w.heap.size w w1) := bel_on K0.out hb1
      clear hb1
      go_wp2_with (refine wpList_load_row rfl 29 (.tmp 1) rfl w0.heap.size rfl 29 cs (0, 0) _ (HX.out _ K1.out) Tryz.underlying29 rfl HIN.out ?_)
      refine (HVS.out _ K1.out).mono ?_
      rintro e w2 ⟨rfl, hb2⟩
      have K2 : Hid (Below w.heap.size w w2) := bel_on K1.out hb2
      have c0 := (HCL.out _ K2.out).1
      clear hb2
      go_wp2_with fail
      go_ret
      exact ⟨by simp, bel_on b0.out K2.out⟩
    · by_cases hu2 : s.u = 2
      · have hcm : s.cmp = true := by
          unfold StV.cmp
          rw [hu2, show (2 : Int).toNat - 2 = 0 from rfl, complete_two (by omega)]; rfl
        rw [hcm] at HCP
        rw [hu2] at HCL
        generalize s.cs.toArray = cs at *
        clear hok hW0 h h0 hk q1 q2 q3 q4 hcm hu2 hgt
        go_enter Tryz.func16, Tryz.ntmps16
        go_wp2_with (rw [← HW0.out])
        refine (alive_any _).mono ?_
        rintro e w1 ⟨rfl, hb1⟩
        have K1 : Hid (Below w.heap.size w w1) := bel_on K0.out hb1
        clear hb1
        go_wp2_with (refine wpList_load_row rfl 29 (.tmp 1) rfl w0.heap.size rfl 29 cs (0, 0) _ (HX.out _ K1.out) Tryz.underlying29 rfl HIN.out ?_)
        refine (HVS.out _ K1.out).mono ?_
        rintro e w2 ⟨rfl, hb2⟩
        have K2 : Hid (Below w.heap.size w w2) := bel_on K1.out hb2
        have c0 := (HCL.out _ K2.out).1
        clear hb2
        go_wp2_with (refine wpList_load_row rfl 29 (.tmp 1) rfl w0.heap.size rfl 29 cs (0, 0) _ (HX.out _ K2.out) Tryz.underlying29 rfl HIN.out ?_)
        clear c0
        refine (HCP.out _ K2.out).mono ?_
        rintro e w3 ⟨rfl, hb3⟩
        have K3 : Hid (Below w.heap.size w w3) := bel_on K2.out hb3
        have c0 := (HCL.out _ K3.out).1
        clear hb3
        go_wp2_with fail
        go_ret
        exact ⟨by simp, bel_on b0.out K3.out⟩
      · have hu3 : s.u = 3 := by omega
        obtain ⟨hcm, hnm⟩ := three_users hok hu3 hD
        obtain ⟨v1, v2⟩ := esc_cmp hok hD
        have u1 := tailS_yes (d := D) (k := D) (X := 1) (x := 0) (by omega) (by omega) (by omega) (by omega) (by omega)
        have HT : Hid (∀ W, Calls Tryz.prog 55 #[.int .i64 (D : Int), .int .i64 (D : Int), .int .i64 0] W fun e w' => ∃ X x' Z z, e = .returned (.tuple #[.agg #[.slice X (tailS (D : Int) (D : Int) 0).1.1.length x', .slice Z (tailS (D : Int) (D : Int) 0).1.2.length z], .int .i64 (tailS (D : Int) (D : Int) 0).2]) ∧ NR w' X x' (tailS (D : Int) (D : Int) 0).1.1 ∧ NR w' Z z (tailS (D : Int) (D : Int) 0).1.2 ∧ Below W.heap.size W w') := fun W => (Tail_any (D : Int) (D : Int) 0 W).mono fun e w' h => frac2_open_ h
        rw [u1] at HT
        dsimp only at HT
        have HCM : Hid (∀ W A a B b, Below w.heap.size w W → NR W A a (lowS (divsN D D 1) (bin (2 * D) D)).1 → NR W B b (lowS (divsN D D 1) (bin (2 * D) D)).2 → Calls Tryz.prog 54 #[.agg #[.slice A (lowS (divsN D D 1) (bin (2 * D) D)).1.length a, .slice B (lowS (divsN D D 1) (bin (2 * D) D)).2.length b], .agg #[.slice s.A s.x.length s.ca, .slice s.Bd s.y.length s.cb]] W fun e w' => e = .returned (.tuple #[.int .i64 (cmpN (divsN D D 1 * val s.y) (val s.x * bin (2 * D) D)), .int .i64 0]) ∧ Below W.heap.size W w') := fun W A a B b hW g1 g2 => (CompareFractions_any A a _ B b _ s.A s.ca s.x s.Bd s.cb s.y W rfl rfl rfl rfl g1 g2 (h.hx.below hW) (h.hy.below hW)).mono fun e w' hq => by
          rw [v1] at hq
          exact hq
        have hwd : ∀ b, b < 2 → ((([0, D] : List Nat).getD b 0 : Nat) : Int) ≤ s.b := fun b hb => by
          have hb2 : b = 0 ∨ b = 1 := by omega
          rw [hD]
          rcases hb2 with rfl | rfl <;> simp
        have hDD : (D : Int) ≤ 64 := by omega
        have hD1 : 1 ≤ (D : Int) := by omega
        by_cases hth : 0 ≤ s.th D
        · have HNM : Hid (∀ P c Q cq W, Below w.heap.size w W → IR W P c (natI [0, D]) → IR W Q cq [1] → Calls Tryz.prog 59 #[.agg s.cs.toArray, .slice P 2 c, .slice Q 1 cq] W fun e w' => e = .returned (.bool true) ∧ Below W.heap.size W w') := fun P c Q cq W hW g1 g2 => by
            have := lawNames_any s P c [0, D] Q cq [1] W (h.below hW) hok (mw := 2) (nq := 1) rfl rfl (by rw [hu3]; rfl) hwd g1 g2
            rwa [hnm, if_pos hth, show sameI [1] [1] = true from rfl] at this
          rw [hcm, decide_eq_true hth] at HCP
          obtain ⟨z, hz⟩ : ∃ z, cmpN (divsN D D 1 * val s.y) (val s.x * bin (2 * D) D) = z := ⟨_, rfl⟩
          have hzz : z ≤ 0 := by rw [← hz]; exact v2.2 hth
          rw [hz] at HCM
          generalize (lowS (divsN D D 1) (bin (2 * D) D)) = l1 at *
          obtain ⟨l1a, l1b⟩ := l1
          dsimp only at *
          generalize l1a.length = n1a at *
          generalize l1b.length = n1b at *
          generalize s.x.length = lx at *
          generalize s.y.length = ly at *
          generalize s.cs.toArray = cs at *
          clear hok hW0 h h0 hk q1 q2 q3 q4 v1 v2 hz hcm hnm hth u1 hwd hgt hD hu2
          rw [hu3] at HCL
          clear hu3
          go_enter Tryz.func16, Tryz.ntmps16
          go_wp2_with (rw [← HW0.out])
          refine (alive_any _).mono ?_
          rintro e w1 ⟨rfl, hb1⟩
          have K1 : Hid (Below w.heap.size w w1) := bel_on K0.out hb1
          clear hb1
          go_wp2_with (refine wpList_load_row rfl 29 (.tmp 1) rfl w0.heap.size rfl 29 cs (0, 0) _ (HX.out _ K1.out) Tryz.underlying29 rfl HIN.out ?_)
          refine (HVS.out _ K1.out).mono ?_
          rintro e w2 ⟨rfl, hb2⟩
          have K2 : Hid (Below w.heap.size w w2) := bel_on K1.out hb2
          have c0 := (HCL.out _ K2.out).1
          clear hb2
          go_wp2_with (refine wpList_load_row rfl 29 (.tmp 1) rfl w0.heap.size rfl 29 cs (0, 0) _ (HX.out _ K2.out) Tryz.underlying29 rfl HIN.out ?_)
          clear c0
          refine (HCP.out _ K2.out).mono ?_
          rintro e w3 ⟨rfl, hb3⟩
          have K3 : Hid (Below w.heap.size w w3) := bel_on K2.out hb3
          have c0 := (HCL.out _ K3.out).1
          have c1 := (HCL.out _ K3.out).2.1
          clear hb3
          go_wp2_with fail
          clear c0 c1
          refine (HT.out _).mono ?_
          rintro e w4 ⟨X4, x4, Z4, z4, rfl, gx4, gz4, hb4⟩
          obtain ⟨w4b, hw4⟩ : ∃ W, W = w4.alloc (.cells #[.slice X4 n1a x4, .slice Z4 n1b z4] 27) := ⟨_, rfl⟩
          have d4 : Below w4.heap.size w4 w4b := by rw [hw4]; exact alloc_bel _ _
          have hbb4 := bel_on hb4 d4
          have K4 : Hid (Below w.heap.size w w4b) := bel_on K3.out hbb4
          have T4 : Hid (Blk w4b w4.heap.size 27 #[.slice X4 n1a x4, .slice Z4 n1b z4]) := by unfold Hid; rw [hw4]; exact Blk.new _ _ _
          have GX4 := Lib.hid (gx4.below d4)
          have GZ4 := Lib.hid (gz4.below d4)
          have HW4 := Lib.hid hw4
          clear hw4 d4 hbb4 hb4 gx4 gz4
          have q0 := T4.out.cell 0
          have q1 := T4.out.cell 1
          obtain ⟨c0, c1, c18, c19⟩ := HCL.out _ K4.out
          go_wp2_with (rw [← HW4.out])
          refine (HCM.out _ _ _ _ _ K4.out GX4.out GZ4.out).mono ?_
          rintro e w5 ⟨rfl, hb5⟩
          have K5 : Hid (Below w.heap.size w w5) := bel_on K4.out hb5
          clear hb5 q0 q1 c0 c1 c18 c19
          obtain ⟨wx, hwx⟩ : ∃ W, W = w5.alloc (.cells #[.int .i64 0, .int .i64 (D : Int)] 3) := ⟨_, rfl⟩
          obtain ⟨i1, dx⟩ := ints_lit3 w5 D (by omega) hwx
          obtain ⟨wy, hwy⟩ : ∃ W, W = wx.alloc (.cells #[.int .i64 1] 3) := ⟨_, rfl⟩
          obtain ⟨i2, dy⟩ := ints_lit1 wx [1] (na := 1) rfl (by omega) (by simp) hwy
          have KY : Hid (Below w.heap.size w wy) := bel_on K5.out (bel_on dx dy)
          have HN : Hid (Calls Tryz.prog 59 #[.agg cs, .slice (some ⟨w5.heap.size, 0, none⟩) 2 2, .slice (some ⟨wx.heap.size, 0, none⟩) 1 1] wy fun e w' => e = .returned (.bool true) ∧ Below wy.heap.size wy w') := HNM.out _ _ _ _ _ KY.out (i1.below dy) i2
          have HWX := Lib.hid hwx
          have HWY := Lib.hid hwy
          clear hwx hwy i1 i2 dx dy
          have c1 := (HCL.out _ K5.out).2.1
          go_wp2_with (first | (rw [← HWX.out]) | (rw [← HWY.out]) | (refine BigFrame.wpList_want (by rfl) fun K' hK' => wp_load_row 29 (.tmp 1) rfl w0.heap.size rfl 29 cs (0, 0) _ (HX.out _ K5.out) Tryz.underlying29 rfl HIN.out (hK' _ _ ?_)))
          refine HN.out.mono ?_
          rintro e w6 ⟨rfl, hb6⟩
          have K6 : Hid (Below w.heap.size w w6) := bel_on KY.out hb6
          clear hb6
          go_wp2_with fail
          go_ret
          exact ⟨by simp, bel_on b0.out K6.out⟩
        · have HNM : Hid (∀ P c W, Below w.heap.size w W → IR W P c (natI [0, D]) → Calls Tryz.prog 59 #[.agg s.cs.toArray, .slice P 2 c, .slice none 0 0] W fun e w' => e = .returned (.bool true) ∧ Below W.heap.size W w') := fun P c W hW g1 => by
            have := lawNames_any s P c [0, D] none 0 [] W (h.below hW) hok (mw := 2) (nq := 0) rfl rfl (by rw [hu3]; rfl) hwd g1 ⟨Rd.nil _ _, fun x hx => by cases hx⟩
            rwa [hnm, if_neg hth, show sameI [] [] = true from rfl] at this
          rw [hcm, decide_eq_false hth] at HCP
          obtain ⟨z, hz⟩ : ∃ z, cmpN (divsN D D 1 * val s.y) (val s.x * bin (2 * D) D) = z := ⟨_, rfl⟩
          have hzz : ¬ (z ≤ 0) := by rw [← hz]; exact fun g => hth (v2.1 g)
          rw [hz] at HCM
          generalize (lowS (divsN D D 1) (bin (2 * D) D)) = l1 at *
          obtain ⟨l1a, l1b⟩ := l1
          dsimp only at *
          generalize l1a.length = n1a at *
          generalize l1b.length = n1b at *
          generalize s.x.length = lx at *
          generalize s.y.length = ly at *
          generalize s.cs.toArray = cs at *
          clear hok hW0 h h0 hk q1 q2 q3 q4 v1 v2 hz hcm hnm hth u1 hwd hgt hD hu2
          rw [hu3] at HCL
          clear hu3
          go_enter Tryz.func16, Tryz.ntmps16
          go_wp2_with (rw [← HW0.out])
          refine (alive_any _).mono ?_
          rintro e w1 ⟨rfl, hb1⟩
          have K1 : Hid (Below w.heap.size w w1) := bel_on K0.out hb1
          clear hb1
          go_wp2_with (refine wpList_load_row rfl 29 (.tmp 1) rfl w0.heap.size rfl 29 cs (0, 0) _ (HX.out _ K1.out) Tryz.underlying29 rfl HIN.out ?_)
          refine (HVS.out _ K1.out).mono ?_
          rintro e w2 ⟨rfl, hb2⟩
          have K2 : Hid (Below w.heap.size w w2) := bel_on K1.out hb2
          have c0 := (HCL.out _ K2.out).1
          clear hb2
          go_wp2_with (refine wpList_load_row rfl 29 (.tmp 1) rfl w0.heap.size rfl 29 cs (0, 0) _ (HX.out _ K2.out) Tryz.underlying29 rfl HIN.out ?_)
          clear c0
          refine (HCP.out _ K2.out).mono ?_
          rintro e w3 ⟨rfl, hb3⟩
          have K3 : Hid (Below w.heap.size w w3) := bel_on K2.out hb3
          have c0 := (HCL.out _ K3.out).1
          have c1 := (HCL.out _ K3.out).2.1
          clear hb3
          go_wp2_with fail
          clear c0 c1
          refine (HT.out _).mono ?_
          rintro e w4 ⟨X4, x4, Z4, z4, rfl, gx4, gz4, hb4⟩
          obtain ⟨w4b, hw4⟩ : ∃ W, W = w4.alloc (.cells #[.slice X4 n1a x4, .slice Z4 n1b z4] 27) := ⟨_, rfl⟩
          have d4 : Below w4.heap.size w4 w4b := by rw [hw4]; exact alloc_bel _ _
          have hbb4 := bel_on hb4 d4
          have K4 : Hid (Below w.heap.size w w4b) := bel_on K3.out hbb4
          have T4 : Hid (Blk w4b w4.heap.size 27 #[.slice X4 n1a x4, .slice Z4 n1b z4]) := by unfold Hid; rw [hw4]; exact Blk.new _ _ _
          have GX4 := Lib.hid (gx4.below d4)
          have GZ4 := Lib.hid (gz4.below d4)
          have HW4 := Lib.hid hw4
          clear hw4 d4 hbb4 hb4 gx4 gz4
          have q0 := T4.out.cell 0
          have q1 := T4.out.cell 1
          obtain ⟨c0, c1, c18, c19⟩ := HCL.out _ K4.out
          go_wp2_with (rw [← HW4.out])
          refine (HCM.out _ _ _ _ _ K4.out GX4.out GZ4.out).mono ?_
          rintro e w5 ⟨rfl, hb5⟩
          have K5 : Hid (Below w.heap.size w w5) := bel_on K4.out hb5
          clear hb5 q0 q1 c0 c1 c18 c19
          obtain ⟨wx, hwx⟩ : ∃ W, W = w5.alloc (.cells #[.int .i64 0, .int .i64 (D : Int)] 3) := ⟨_, rfl⟩
          obtain ⟨i1, dx⟩ := ints_lit3 w5 D (by omega) hwx
          have KX : Hid (Below w.heap.size w wx) := bel_on K5.out dx
          have HN : Hid (Calls Tryz.prog 59 #[.agg cs, .slice (some ⟨w5.heap.size, 0, none⟩) 2 2, .slice none 0 0] wx fun e w' => e = .returned (.bool true) ∧ Below wx.heap.size wx w') := HNM.out _ _ _ KX.out i1
          have HWX := Lib.hid hwx
          clear hwx i1 dx
          have c1 := (HCL.out _ K5.out).2.1
          go_wp2_with (first | (rw [← HWX.out]) | (refine BigFrame.wpList_want (by rfl) fun K' hK' => wp_load_row 29 (.tmp 1) rfl w0.heap.size rfl 29 cs (0, 0) _ (HX.out _ K5.out) Tryz.underlying29 rfl HIN.out (hK' _ _ ?_)))
          refine HN.out.mono ?_
          rintro e w6 ⟨rfl, hb6⟩
          have K6 : Hid (Below w.heap.size w w6) := bel_on KX.out hb6
          clear hb6
          go_wp2_with fail
          go_ret
          exact ⟨by simp, bel_on b0.out K6.out⟩
  · have hok2 : s.ok = false := by simpa using hok
    rw [hok2] at HVS
    generalize s.cs.toArray = cs at *
    clear hok hok2 hW0 h h0 hk
    go_enter Tryz.func16, Tryz.ntmps16
    go_wp2_with (rw [← HW0.out])
    refine (alive_any _).mono ?_
    rintro e w1 ⟨rfl, hb1⟩
    have K1 : Hid (Below w.heap.size w w1) := bel_on K0.out hb1
    clear hb1
    go_wp2_with (refine wpList_load_row rfl 29 (.tmp 1) rfl w0.heap.size rfl 29 cs (0, 0) _ (HX.out _ K1.out) Tryz.underlying29 rfl HIN.out ?_)
    refine (HVS.out _ K1.out).mono ?_
    rintro e w2 ⟨rfl, hb2⟩
    have K2 : Hid (Below w.heap.size w w2) := bel_on K1.out hb2
    clear hb2
    go_wp2_with fail
    go_ret
    exact ⟨by simp, bel_on b0.out K2.out⟩
theorem codeEscapes_walk (s : StV) (w : World) (h : StOK w s) :
    Calls Tryz.prog 16 #[.agg s.cs.toArray] w fun e w' => e = .returned (.bool true) ∧ Below w.heap.size w w' := codeEscapes_walk0 s w h
end Go.Proofs.YtenpkmgbaajeeaaGreat

/- The law CodeLone: the walk. -/
namespace Go.Proofs.YtenpkmgbaajeeaaGreat
open Go.RowKit
set_option linter.unusedVariables false
set_option linter.unusedSimpArgs false
set_option maxHeartbeats 8000000 in
set_option maxRecDepth 100000 in
theorem codeLone_walk0 (s : StV) (x : Int) (w0 : World) (h0 : StOK w0 s) (hx1 : -9223372036854775808 ≤ x) (hx2 : x ≤ 9223372036854775807) :
    Calls Tryz.prog 11 #[.agg s.cs.toArray, .int .i64 x] w0 fun e w' => e = .returned (.bool true) ∧ Below w0.heap.size w0 w' := by
  have hk := h0.k16
  obtain ⟨w, hW0⟩ : ∃ W : World, W = w0.alloc (.cells s.cs.toArray 29) := ⟨_, rfl⟩
  have b0 : Hid (Below w0.heap.size w0 w) := by unfold Hid; rw [hW0]; exact alloc_bel _ _
  have HX : Hid (∀ W, Below w.heap.size w W → Blk W w0.heap.size 29 s.cs.toArray) := fun W hW => Blk.below' (by rw [hW0]; exact Blk.new w0 _ _) hW
  have h := h0.below b0.out
  have HW0 := Lib.hid hW0
  have HIN := Lib.hid (StV.info (s := s) hk)
  have K0 : Hid (Below w.heap.size w w) := Below.refl _ _
  have HVS : Hid (∀ W, Below w.heap.size w W → Calls Tryz.prog 43 #[.agg s.cs.toArray] W fun e w' => e = .returned (.bool s.ok) ∧ Below W.heap.size W w') := fun W hW => refValidSteps_any s W (h.below hW)
  have HSW0 : Hid (∀ W, Below w.heap.size w W → Calls Tryz.prog 19 #[.agg s.cs.toArray, .int .i64 x] W fun e w' => ∃ A c, e = .returned (.tuple #[.slice A (s.wordR x).1.length c, .int .i64 (s.wordR x).2]) ∧ BR w' A c (s.wordR x).1 ∧ Below W.heap.size W w') := fun W hW => (StepWord_any s x W (h.below hW) hx1 hx2).mono fun e w' ⟨⟨A, c', he, ho⟩, h2⟩ => ⟨A, c', he, ho, h2⟩
  by_cases hok : s.ok = true
  · obtain ⟨⟨q1, q2, q3, q4⟩, -⟩ := StV.parts hok
    obtain ⟨hn1, hnl, hnu⟩ := StV.n_le hok
    obtain ⟨D, m, hD, hU, d1, d2, m1, m2, hnD⟩ := StV.nats hok
    have HCL : Hid (∀ W, Below w.heap.size w W → W.cell? ⟨w0.heap.size, 0, none⟩ = some (.int .i64 s.u) ∧ W.cell? ⟨w0.heap.size, 1, none⟩ = some (.int .i64 (D : Int)) ∧ W.cell? ⟨w0.heap.size, 18, none⟩ = some (.slice s.A s.x.length s.ca) ∧ W.cell? ⟨w0.heap.size, 19, none⟩ = some (.slice s.Bd s.y.length s.cb)) := fun W hW => by
      have := StV.cells hk (HX.out W hW)
      rw [hD] at this
      exact this
    rw [hok] at HVS
    by_cases hr : x < 0 ∨ s.u ≤ x
    · have HSW : Hid (∀ W, Below w.heap.size w W → Calls Tryz.prog 19 #[.agg s.cs.toArray, .int .i64 x] W fun e w' => ∃ A c, e = .returned (.tuple #[.slice A 0 c, .int .i64 2]) ∧ BR w' A c [] ∧ Below W.heap.size W w') := by
        have e : s.wordR x = ([], 2) := by unfold StV.wordR; rw [if_neg (by rw [hok]; simp), if_pos hr]
        rw [e] at HSW0
        exact HSW0
      generalize s.u = u at *
      generalize s.x.length = lx at *
      generalize s.y.length = ly at *
      generalize s.cs.toArray = cs at *
      clear hok hW0 h h0 hk HSW0 hnl hn1 hnu hU
      go_enter Tryz.func11, Tryz.ntmps11
      go_wp2_with (rw [← HW0.out])
      refine (alive_any _).mono ?_
      rintro e w1 ⟨rfl, hb1⟩
      have K1 : Hid (Below w.heap.size w w1) := bel_on K0.out hb1
      clear hb1
      go_wp2_with (refine wpList_load_row rfl 29 (.tmp 2) rfl w0.heap.size rfl 29 cs (0, 0) _ (HX.out _ K1.out) Tryz.underlying29 rfl HIN.out ?_)
      refine (HSW.out _ K1.out).mono ?_
      rintro e w2 ⟨A, cA, rfl, hA, hb2⟩
      have K2 : Hid (Below w.heap.size w w2) := bel_on K1.out hb2
      clear hb2 hA
      go_wp2_with (refine wpList_load_row rfl 29 (.tmp 2) rfl w0.heap.size rfl 29 cs (0, 0) _ (HX.out _ K2.out) Tryz.underlying29 rfl HIN.out ?_)
      by_cases hx0 : x < 0
      · refine (HVS.out _ K2.out).mono ?_
        rintro e w3 ⟨rfl, hb3⟩
        have K3 : Hid (Below w.heap.size w w3) := bel_on K2.out hb3
        obtain ⟨c0, c1, -, -⟩ := HCL.out _ K3.out
        clear hb3
        go_wp2_with fail
        go_ret
        exact ⟨by simp, bel_on b0.out K3.out⟩
      · have hux : u ≤ x := by omega
        refine (HVS.out _ K2.out).mono ?_
        rintro e w3 ⟨rfl, hb3⟩
        have K3 : Hid (Below w.heap.size w w3) := bel_on K2.out hb3
        obtain ⟨c0, c1, -, -⟩ := HCL.out _ K3.out
        clear hb3
        go_wp2_with fail
        go_ret
        exact ⟨by simp, bel_on b0.out K3.out⟩
    · obtain ⟨X, rfl⟩ : ∃ X : Nat, x = (X : Int) := ⟨x.toNat, by omega⟩
      have hXm : X ≤ m := by omega
      have HSW : Hid (∀ W, Below w.heap.size w W → Calls Tryz.prog 19 #[.agg s.cs.toArray, .int .i64 (X : Int)] W fun e w' => ∃ A c, e = .returned (.tuple #[.slice A s.n c, .int .i64 0]) ∧ BR w' A c (s.word X) ∧ Below W.heap.size W w') := by
        have e : s.wordR X = (s.word X, 0) := by unfold StV.wordR; rw [if_neg (by rw [hok]; simp), if_neg hr, Int.toNat_natCast]
        rw [e] at HSW0
        dsimp only at HSW0
        rw [s.word_len] at HSW0
        exact HSW0
      have HWT : Hid (∀ W A c, Below w.heap.size w W → BR W A c (s.word X) → Calls Tryz.prog 23 #[.agg s.cs.toArray, .slice A s.n c] W fun e w' => ∃ A c, (e = .returned (.tuple #[.slice A (natI (s.wts (s.word X))).length c, .int .i64 0]) ∧ IR w' A c (natI (s.wts (s.word X)))) ∧ Below W.heap.size W w') := fun W A c hW hA => (Weights_any s A c (s.word X) W (h.below hW) (s.word_len X) hA).mono fun e w' ⟨⟨A, c', he, ho⟩, h2⟩ => by
        have : s.wtsR (s.word X) = (natI (s.wts (s.word X)), 0) := by unfold StV.wtsR; rw [if_neg (by rw [hok]; simp), if_neg (by rw [s.word_cp]; simp)]
        rw [this] at he ho
        exact ⟨A, c', ⟨he, ho⟩, h2⟩
      have HTS : Hid (∀ W A c, Below w.heap.size w W → BR W A c (s.word X) → Calls Tryz.prog 26 #[.agg s.cs.toArray, .slice A s.n c] W fun e w' => ∃ A c, (e = .returned (.tuple #[.slice A (s.nms (s.word X)).length c, .int .i64 0]) ∧ IR w' A c (s.nms (s.word X))) ∧ Below W.heap.size W w') := fun W A c hW hA => (TraceSteps_any s A c (s.word X) W (h.below hW) (s.word_len X) hA).mono fun e w' ⟨⟨A, c', he, ho⟩, h2⟩ => by
        have : s.nmsR (s.word X) = (s.nms (s.word X), 0) := by unfold StV.nmsR; rw [if_neg (by rw [hok]; simp), if_neg (by rw [s.word_cp]; simp)]
        rw [this] at he ho
        exact ⟨A, c', ⟨he, ho⟩, h2⟩
      have HAT : Hid (∀ b, b < m → it (natI (s.wts (s.word X))) b = if X ≤ b then (D : Int) else 0) := fun b hb => by
        rw [it_nat, lone_wts hok hD hU hnD d1 X hb]
        split <;> rfl
      have hwl : (natI (s.wts (s.word X))).length = m := by unfold natI; rw [List.length_map, s.wts_len]; omega
      have HBT : Hid (∀ i, bt (s.word X) i ≤ 1) := fun i => s.word_bit X i
      have HWL : Hid ((s.word X).length = s.n) := s.word_len X
      have hon := lone_ones hok hD hnD X
      have HNM : Hid (0 ≤ s.th D → s.nms (s.word X) = [(X : Int)]) := fun g => lone_names hok hD hU hnD d1 m1 hXm g
      obtain ⟨v1, v2⟩ := esc_cmp hok hD
      have u1 := tailS_yes (d := D) (k := D) (X := 1) (x := 0) (by omega) (by omega) (by omega) (by omega) (by omega)
      have HT : Hid (∀ W, Calls Tryz.prog 55 #[.int .i64 (D : Int), .int .i64 (D : Int), .int .i64 0] W fun e w' => ∃ X x' Z z, e = .returned (.tuple #[.agg #[.slice X (tailS (D : Int) (D : Int) 0).1.1.length x', .slice Z (tailS (D : Int) (D : Int) 0).1.2.length z], .int .i64 (tailS (D : Int) (D : Int) 0).2]) ∧ NR w' X x' (tailS (D : Int) (D : Int) 0).1.1 ∧ NR w' Z z (tailS (D : Int) (D : Int) 0).1.2 ∧ Below W.heap.size W w') := fun W => (Tail_any (D : Int) (D : Int) 0 W).mono fun e w' h => frac2_open_ h
      rw [u1] at HT
      dsimp only at HT
      have HCM : Hid (∀ W A a B b, Below w.heap.size w W → NR W A a (lowS (divsN D D 1) (bin (2 * D) D)).1 → NR W B b (lowS (divsN D D 1) (bin (2 * D) D)).2 → Calls Tryz.prog 54 #[.agg #[.slice A (lowS (divsN D D 1) (bin (2 * D) D)).1.length a, .slice B (lowS (divsN D D 1) (bin (2 * D) D)).2.length b], .agg #[.slice s.A s.x.length s.ca, .slice s.Bd s.y.length s.cb]] W fun e w' => e = .returned (.tuple #[.int .i64 (cmpN (divsN D D 1 * val s.y) (val s.x * bin (2 * D) D)), .int .i64 0]) ∧ Below W.heap.size W w') := fun W A a B b hW g1 g2 => (CompareFractions_any A a _ B b _ s.A s.ca s.x s.Bd s.cb s.y W rfl rfl rfl rfl g1 g2 (h.hx.below hW) (h.hy.below hW)).mono fun e w' hq => by
        rw [v1] at hq
        exact hq
      obtain ⟨z, hz⟩ : ∃ z, cmpN (divsN D D 1 * val s.y) (val s.x * bin (2 * D) D) = z := ⟨_, rfl⟩
      rw [hz] at HCM v2
      have HZ : Hid (¬ (0 < z) → s.nms (s.word X) = [(X : Int)]) := fun g => HNM.out (v2.1 (by omega))
      have hDi : (D : Int) ≤ 64 := by omega
      have hDi1 : 1 ≤ (D : Int) := by omega
      have hmi : (m : Int) ≤ 15 := by omega
      have hmi1 : 1 ≤ (m : Int) := by omega
      have hXi : (X : Int) ≤ m := by omega
      obtain ⟨r, hr2⟩ : ∃ r : Nat, m - X = r := ⟨_, rfl⟩
      obtain ⟨q, hq⟩ : ∃ q : Nat, onesB (s.word X) s.n = q := ⟨_, rfl⟩
      have hqr : r * D = q := by rw [← hq, hon, ← hr2, Nat.sub_mul]
      have hqri : (r : Int) * (D : Int) = (q : Int) := by rw [← hqr, Int.natCast_mul]
      have hqn : q ≤ 1000 := by have := ones_le (s.word X) s.n; omega
      have HQ : Hid (onesB (s.word X) s.n = q) := hq
      obtain ⟨uu, huu⟩ : ∃ uu, s.u = uu := ⟨_, rfl⟩
      rw [huu] at HCL
      have ev : IntKind.i64.wrap (uu - 1) = (m : Int) := by rw [IntKind.wrap_i64]; omega
      have ew : IntKind.i64.wrap ((m : Int) - (X : Int)) = (r : Int) := by rw [IntKind.wrap_i64]; omega
      have ey : IntKind.i64.wrap ((r : Int) * (D : Int)) = (q : Int) := by rw [hqri, IntKind.wrap_i64]; omega
      have ex1 : ¬ ((X : Int) < 0) := by omega
      have ex2 : ¬ (uu ≤ (X : Int)) := by omega
      have hni : (s.n : Int) ≤ 1000 := by omega
      generalize s.wts (s.word X) = ws at *
      generalize s.nms (s.word X) = nm at *
      obtain ⟨nl, hnl2⟩ : ∃ nl, nm.length = nl := ⟨_, rfl⟩
      have HNL := Lib.hid hnl2
      rw [hnl2] at HTS
      rw [hwl] at HWT
      generalize natI ws = wi at *
      generalize s.word X = wd at *
      generalize s.n = n at *
      generalize (lowS (divsN D D 1) (bin (2 * D) D)) = l1 at *
      obtain ⟨l1a, l1b⟩ := l1
      dsimp only at *
      generalize l1a.length = n1a at *
      generalize l1b.length = n1b at *
      generalize s.x.length = lx at *
      generalize s.y.length = ly at *
      generalize s.cs.toArray = cs at *
      have HWI : Hid (wi.length = m) := hwl
      clear hok hW0 h h0 hk HSW0 hnl hn1 hnu hU hr q1 q2 q3 q4 hD hnD d1 d2 m1 m2 hwl hon v1 v2 u1 hz hr2 hq hqr huu hnl2 HNM hXm
      go_enter Tryz.func11, Tryz.ntmps11
      go_wp2_with (rw [← HW0.out])
      refine (alive_any _).mono ?_
      rintro e w1 ⟨rfl, hb1⟩
      have K1 : Hid (Below w.heap.size w w1) := bel_on K0.out hb1
      clear hb1
      go_wp2_with (refine wpList_load_row rfl 29 (.tmp 2) rfl w0.heap.size rfl 29 cs (0, 0) _ (HX.out _ K1.out) Tryz.underlying29 rfl HIN.out ?_)
      refine (HSW.out _ K1.out).mono ?_
      rintro e w2 ⟨A, cA, rfl, hA, hb2⟩
      have K2 : Hid (Below w.heap.size w w2) := bel_on K1.out hb2
      have HA := Lib.hid hA
      clear hb2 hA
      go_wp2_with (refine wpList_load_row rfl 29 (.tmp 2) rfl w0.heap.size rfl 29 cs (0, 0) _ (HX.out _ K2.out) Tryz.underlying29 rfl HIN.out ?_)
      refine (HVS.out _ K2.out).mono ?_
      rintro e w3 ⟨rfl, hb3⟩
      have K3 : Hid (Below w.heap.size w w3) := bel_on K2.out hb3
      obtain ⟨c0, c1, -, -⟩ := HCL.out _ K3.out
      have HAW : Hid (∀ W, Below w3.heap.size w3 W → BR W A cA wd) := fun W hW => (HA.out.below hb3).below hW
      clear hb3
      go_wp2_with fail
      clear c0 c1 HA
      go_loopw [8, 9] (fun va vi wr => ∃ i : Nat, i ≤ n ∧ vi = .int .i64 (i : Int) ∧ va = .int .i64 (onesB wd i : Int) ∧ w3 = wr) (fun _ vi _ => n - (intOf vi).toNat)
      case atStart => exact ⟨0, by omega, rfl, rfl, rfl⟩
      case round =>
        obtain ⟨i, hi, rfl, rfl, rfl⟩ := hrel
        by_cases hin : i < n
        · have hii : (i : Int) < n := by omega
          have hi0 : (0 : Int) ≤ i := by omega
          obtain ⟨p, o, rfl, -, g1⟩ := (HAW.out _ (Below.refl _ _)).at_ (i := i) (by rw [HWL.out]; exact hin)
          have hb := HBT.out i
          have hst := ones_step wd i hb
          have hle := ones_le wd i
          have HST := Lib.hid hst
          obtain ⟨bb, hbb⟩ : ∃ bb, bt wd i = bb := ⟨_, rfl⟩
          obtain ⟨so, hso⟩ : ∃ so, onesB wd i = so := ⟨_, rfl⟩
          rw [hbb] at g1 hb HST
          rw [hso] at HST hle ⊢
          have hbi : (bb : Int) ≤ 1 := by omega
          have hsi : (so : Int) ≤ 1000 := by omega
          have ecv : IntKind.i64.wrap (bb : Int) = (bb : Int) := by rw [IntKind.wrap_i64]; omega
          clear hst hbb hso hin hle hb
          go_wp2_with fail
          go_roundw
          case rel => exact ⟨i + 1, by omega, by go_num, by rw [HST.out]; rfl, trivial⟩
          case measure => simp [intOf]; omega
        · obtain rfl : i = n := by omega
          have hx5 : ¬ ((i : Int) < (i : Int)) := by omega
          have VB := Lib.hid (HAW.out _ (Below.refl _ _))
          rw [HQ.out]
          go_wp2_with (refine wpList_load_row rfl 29 (.tmp 2) rfl w0.heap.size rfl 29 cs (0, 0) _ (HX.out _ K3.out) Tryz.underlying29 rfl HIN.out ?_)
          refine (HWT.out _ _ _ K3.out VB.out).mono ?_
          rintro e w5 ⟨G, cG, ⟨rfl, hG⟩, hb5⟩
          have K5 : Hid (Below w.heap.size w w5) := bel_on K3.out hb5
          have VB5 := Lib.hid (VB.out.below hb5)
          have HG5 : Hid (∀ W, Below w5.heap.size w5 W → IR W G cG wi) := fun W hW => hG.below hW
          clear hb5 hG
          go_wp2_with (refine wpList_load_row rfl 29 (.tmp 2) rfl w0.heap.size rfl 29 cs (0, 0) _ (HX.out _ K5.out) Tryz.underlying29 rfl HIN.out ?_)
          refine (HTS.out _ _ _ K5.out VB5.out).mono ?_
          rintro e w6 ⟨Y, cY, ⟨rfl, hY⟩, hb6⟩
          have K6 : Hid (Below w.heap.size w w6) := bel_on K5.out hb6
          have HG6 : Hid (∀ W, Below w6.heap.size w6 W → IR W G cG wi) := fun W hW => (HG5.out _ hb6).below hW
          have HY6 : Hid (∀ W, Below w6.heap.size w6 W → IR W Y cY nm) := fun W hW => hY.below hW
          obtain ⟨c0, c1, -, -⟩ := HCL.out _ K6.out
          clear hb6 hY HG5
          go_wp2_with fail
          clear c0 c1
          refine (HT.out _).mono ?_
          rintro e w7 ⟨X7, x7, Z7, z7, rfl, gx7, gz7, hb7⟩
          obtain ⟨w7b, hw7⟩ : ∃ W, W = w7.alloc (.cells #[.slice X7 n1a x7, .slice Z7 n1b z7] 27) := ⟨_, rfl⟩
          have d7 : Below w7.heap.size w7 w7b := by rw [hw7]; exact alloc_bel _ _
          have hbb7 := bel_on hb7 d7
          have K7 : Hid (Below w.heap.size w w7b) := bel_on K6.out hbb7
          have T7 : Hid (Blk w7b w7.heap.size 27 #[.slice X7 n1a x7, .slice Z7 n1b z7]) := by unfold Hid; rw [hw7]; exact Blk.new _ _ _
          have GX7 := Lib.hid (gx7.below d7)
          have GZ7 := Lib.hid (gz7.below d7)
          have HG7 : Hid (∀ W, Below w7b.heap.size w7b W → IR W G cG wi) := fun W hW => (HG6.out _ hbb7).below hW
          have HY7 : Hid (∀ W, Below w7b.heap.size w7b W → IR W Y cY nm) := fun W hW => (HY6.out _ hbb7).below hW
          have HW7 := Lib.hid hw7
          clear hw7 d7 hbb7 hb7 gx7 gz7
          have q0 := T7.out.cell 0
          have q1 := T7.out.cell 1
          obtain ⟨c0, c1, c18, c19⟩ := HCL.out _ K7.out
          go_wp2_with (rw [← HW7.out])
          refine (HCM.out _ _ _ _ _ K7.out GX7.out GZ7.out).mono ?_
          rintro e w8 ⟨rfl, hb8⟩
          have K8 : Hid (Below w.heap.size w w8) := bel_on K7.out hb8
          have HG8 : Hid (∀ W, Below w8.heap.size w8 W → IR W G cG wi) := fun W hW => (HG7.out _ hb8).below hW
          have HY8 : Hid (∀ W, Below w8.heap.size w8 W → IR W Y cY nm) := fun W hW => (HY7.out _ hb8).below hW
          clear hb8 q0 q1 c0 c1 c18 c19 HG6 HG7 HY6 HY7
          obtain ⟨c0, c1, -, -⟩ := HCL.out _ K8.out
          go_wp2_with fail
          clear c0 c1 ev ew ey
          go_loopw [18] (fun vb wr => ∃ b : Nat, b ≤ m ∧ vb = .int .i64 (b : Int) ∧ Below w8.heap.size w8 wr) (fun vb _ => m - (intOf vb).toNat)
          case atStart => exact ⟨0, by omega, rfl, Below.refl _ _⟩
          case round =>
            obtain ⟨b, hbm, rfl, hbel⟩ := hrel
            by_cases hbn : b < m
            · have hbi : (b : Int) < m := by omega
              have hb0 : (0 : Int) ≤ b := by omega
              obtain ⟨p, o, rfl, -, g1⟩ := (HG8.out _ hbel).at_ (i := b) (by rw [HWI.out]; exact hbn)
              have g2 := HAT.out b hbn
              have c1 : wr.cell? ⟨w0.heap.size, 1, none⟩ = some (.int .i64 (D : Int)) := (HCL.out _ (bel_on K8.out hbel)).2.1
              by_cases hXb : X ≤ b
              · rw [g2, if_pos hXb] at g1
                have t1 : ((D : Int) != 0) = true := by simp; omega
                have t2 : ((D : Int) == 0) = false := by simp; omega
                have t3 : (D == 0) = false := by simp; omega
                have t3' : (D != 0) = true := by simp; omega
                have t3'' : decide (D = 0) = false := by simp; omega
                have t4 : decide ((b : Int) < (X : Int)) = false := by simp; omega
                have t5 : decide (b < X) = false := by simp; omega
                have t6 : ((D : Int) != (D : Int)) = false := by simp
                clear g2 hXb hbn
                go_wp2_with fail
                go_quiet (fail)
                clear t1 t2 t3 t3' t3'' t4 t5 t6
                go_wp2_with fail
                go_roundw
                case rel => exact ⟨b + 1, by omega, by go_num, below_drewN hbel _⟩
                case measure => simp [intOf]; omega
              · rw [g2, if_neg hXb] at g1
                have t1 : ((0 : Int) != (D : Int)) = true := by simp; omega
                have t2 : ((0 : Int) == (D : Int)) = false := by simp; omega
                have t3 : (0 == D) = false := by simp; omega
                have t3' : (0 != D) = true := by simp; omega
                have t3'' : decide (0 = D) = false := by simp; omega
                have t4 : decide ((X : Int) ≤ (b : Int)) = false := by simp; omega
                have t5 : decide (X ≤ b) = false := by simp; omega
                clear g2 hXb hbn
                go_wp2_with fail
                go_quiet (fail)
                clear t1 t2 t3 t3' t3'' t4 t5
                go_wp2_with fail
                go_roundw
                case rel => exact ⟨b + 1, by omega, by go_num, below_drewN hbel _⟩
                case measure => simp [intOf]; omega
            · obtain rfl : b = m := by omega
              have hx6 : ¬ ((b : Int) < (b : Int)) := by omega
              have K9 : Hid (Below w.heap.size w wr) := bel_on K8.out hbel
              by_cases hz : 0 < z
              · go_wp2_with fail
                go_ret
                exact ⟨by simp, bel_on b0.out K9.out⟩
              · have HNE := HZ.out (by omega)
                have HYW := HY8.out _ hbel
                obtain ⟨wy, hwy⟩ : ∃ W, W = wr.alloc (.cells #[.int .i64 (X : Int)] 3) := ⟨_, rfl⟩
                obtain ⟨i2, dy⟩ := ints_lit1 wr [(X : Int)] (na := 1) rfl (by omega) (by simp; omega) hwy
                have KY : Hid (Below w.heap.size w wy) := bel_on K9.out dy
                have HSI : Hid (Calls Tryz.prog 25 #[.slice Y nl cY, .slice (some ⟨wr.heap.size, 0, none⟩) 1 1] wy fun e w' => e = .returned (.bool true) ∧ Below wy.heap.size wy w') := by
                  have := SameInts_any Y cY nm (some ⟨wr.heap.size, 0, none⟩) 1 [(X : Int)] wy HNL.out rfl (HYW.below dy) i2
                  rwa [show sameI nm [(X : Int)] = true from by unfold sameI; rw [HNE]; simp] at this
                have HWY := Lib.hid hwy
                clear hwy i2 dy HNE HYW
                go_wp2_with (rw [← HWY.out])
                refine HSI.out.mono ?_
                rintro e w10 ⟨rfl, hb10⟩
                have K10 : Hid (Below w.heap.size w w10) := bel_on KY.out hb10
                clear hb10
                go_wp2_with fail
                go_ret
                exact ⟨by simp, bel_on b0.out K10.out⟩
  · have hok2 : s.ok = false := by simpa using hok
    have HSW : Hid (∀ W, Below w.heap.size w W → Calls Tryz.prog 19 #[.agg s.cs.toArray, .int .i64 x] W fun e w' => ∃ A c, e = .returned (.tuple #[.slice A 0 c, .int .i64 70]) ∧ BR w' A c [] ∧ Below W.heap.size W w') := by
      have e : s.wordR x = ([], 70) := by unfold StV.wordR; rw [if_pos hok2]
      rw [e] at HSW0
      exact HSW0
    rw [hok2] at HVS
    generalize s.cs.toArray = cs at *
    clear hok hok2 hW0 h h0 hk HSW0
    go_enter Tryz.func11, Tryz.ntmps11
    go_wp2_with (rw [← HW0.out])
    refine (alive_any _).mono ?_
    rintro e w1 ⟨rfl, hb1⟩
    have K1 : Hid (Below w.heap.size w w1) := bel_on K0.out hb1
    clear hb1
    go_wp2_with (refine wpList_load_row rfl 29 (.tmp 2) rfl w0.heap.size rfl 29 cs (0, 0) _ (HX.out _ K1.out) Tryz.underlying29 rfl HIN.out ?_)
    refine (HSW.out _ K1.out).mono ?_
    rintro e w2 ⟨A, cA, rfl, hA, hb2⟩
    have K2 : Hid (Below w.heap.size w w2) := bel_on K1.out hb2
    clear hb2 hA
    go_wp2_with (refine wpList_load_row rfl 29 (.tmp 2) rfl w0.heap.size rfl 29 cs (0, 0) _ (HX.out _ K2.out) Tryz.underlying29 rfl HIN.out ?_)
    refine (HVS.out _ K2.out).mono ?_
    rintro e w3 ⟨rfl, hb3⟩
    have K3 : Hid (Below w.heap.size w w3) := bel_on K2.out hb3
    clear hb3
    go_wp2_with fail
    go_ret
    exact ⟨by simp, bel_on b0.out K3.out⟩
theorem codeLone_walk (s : StV) (x : Int) (w : World) (h : StOK w s) (h1 : -9223372036854775808 ≤ x) (h2 : x ≤ 9223372036854775807) :
    Calls Tryz.prog 11 #[.agg s.cs.toArray, .int .i64 x] w fun e w' => e = .returned (.bool true) ∧ Below w.heap.size w w' := codeLone_walk0 s x w h h1 h2
end Go.Proofs.YtenpkmgbaajeeaaGreat
