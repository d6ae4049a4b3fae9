/-
  Lemmas and contracts, joined.
-/
import Derived.Test.YtenpkmgbaajeeaaGreatCc1
import Derived.Test.YtenpkmgbaajeeaaGreatCp1
import Derived.Test.YtenpkmgbaajeeaaGreatCa2
set_option linter.unusedSimpArgs false
set_option linter.unusedVariables false
set_option linter.unnecessarySimpa false
/- Whether a code of steps is complete: the reference's, and both for any code. -/
namespace Go.Proofs.YtenpkmgbaajeeaaGreat
open Go.RowKit
set_option linter.unusedVariables false
set_option linter.unusedSimpArgs false

def thL (t : Nat → Int) (n : Nat) : List Int := (List.range n).map t
theorem thL_length (t : Nat → Int) (n : Nat) : (thL t n).length = n := by simp [thL]
theorem thL_succ (t : Nat → Int) (n : Nat) : thL t (n + 1) = thL t n ++ [t n] := by simp [thL, List.range_succ]
theorem thL_it {t : Nat → Int} {n i : Nat} (h : i < n) : it (thL t n) i = t i := by rw [it_in (by rw [thL_length]; exact h)]; simp [thL]
theorem mayS_or {d : Nat} {t : Nat → Int} {j v x : Nat} : (decide (∃ u, u < v ∧ mayS d t j u = true ∧ t (u + x) < (u : Int)) || (mayS d t j v && decide (t (v + x) < (v : Int)))) = decide (∃ u, u < v + 1 ∧ mayS d t j u = true ∧ t (u + x) < (u : Int)) := by
  rw [Bool.eq_iff_iff, Bool.or_eq_true, Bool.and_eq_true, decide_eq_true_eq, decide_eq_true_eq, decide_eq_true_eq]
  constructor
  · rintro (⟨u, h1, h2, h3⟩ | ⟨h1, h2⟩)
    · exact ⟨u, by omega, h2, h3⟩
    · exact ⟨v, by omega, h1, h2⟩
  · rintro ⟨u, h1, h2, h3⟩
    by_cases e : u = v
    · subst e; exact .inr ⟨h2, h3⟩
    · exact .inl ⟨u, by omega, h2, h3⟩
theorem mayS_fin {d : Nat} {t : Nat → Int} {j x : Nat} : decide (∃ u, u < d + 1 ∧ mayS d t j u = true ∧ t (u + x) < (u : Int)) = mayS d t (j + 1) x := by
  rw [mayS, decide_eq_decide]
  constructor
  · rintro ⟨v, hv, h1, h3⟩; exact ⟨v, by omega, h1, h3⟩
  · rintro ⟨v, hv, h1, h3⟩; exact ⟨v, by omega, h1, h3⟩
/-- What the next block may weigh, the first v weights of this one looked at. -/
def nextQ (d : Nat) (t : Nat → Int) (j v x : Nat) : Bool := decide (∃ u, u < v ∧ mayS d t j u = true ∧ t (u + x) < (u : Int))
end Go.Proofs.YtenpkmgbaajeeaaGreat

/- The law CodeTails: the walk. -/
namespace Go.Proofs.YtenpkmgbaajeeaaGreat
open Go.RowKit
set_option linter.unusedVariables false
set_option linter.unusedSimpArgs false

theorem frac2_open_ {W w' : World} {e : Ending} {r : (List Nat × List Nat) × Int} (h : Frac2 W w' e r) : ∃ X x Z z, e = .returned (.tuple #[.agg #[.slice X r.1.1.length x, .slice Z r.1.2.length z], .int .i64 r.2]) ∧ NR w' X x r.1.1 ∧ NR w' Z z r.1.2 ∧ Below W.heap.size W w' := by
  obtain ⟨v, rfl, X, x, Z, z, rfl, h1, h2, _, hb⟩ := h
  exact ⟨X, x, Z, z, rfl, h1.nr_, h2.nr_, hb⟩
set_option maxHeartbeats 8000000 in
set_option maxRecDepth 100000 in
theorem Complete_any (s : StV) (w : World) (h : StOK w s) :
    Calls Tryz.prog 61 #[.agg s.cs.toArray] w fun e w' => e = .returned (.tuple #[.bool (cmpSt s).1, .int .i64 (cmpSt s).2]) ∧ Below w.heap.size w w' := by
  cases hok : s.ok with
  | true =>
    have := complete_good s w h hok
    unfold cmpSt
    rw [hok]
    exact this
  | false =>
    have HCK : Hid (∀ W, Below w.heap.size w W → Calls Tryz.prog 21 #[.agg s.cs.toArray] W fun e w' => e = .returned (.int .i64 (ckSt s.ok)) ∧ Below W.heap.size W w') := fun W hW => CheckSteps_any s W (h.below hW)
    have hks := h.k16
    obtain ⟨W0, hW0⟩ : ∃ W : World, W = w.alloc (.cells s.cs.toArray 29) := ⟨_, rfl⟩
    have b0 : Hid (Below w.heap.size w W0) := by unfold Hid; rw [hW0]; exact alloc_below _ _
    have x0 : Hid (Blk W0 w.heap.size 29 s.cs.toArray) := by unfold Hid; rw [hW0]; exact Blk.new w _ _
    have HW0 := Lib.hid hW0
    have HIN := Lib.hid (StV.info (s := s) hks)
    have HS : Hid (cmpSt s = (false, 70)) := by unfold Hid cmpSt; rw [hok]; rfl
    rw [hok] at HCK
    rw [HS.out]
    generalize s.cs.toArray = cs at *
    clear hW0 h hks hok
    go_enter Tryz.func61, Tryz.ntmps61
    go_wp2_with (first
      | (rw [← HW0.out])
      | (refine wpList_load_row rfl 29 (.tmp 1) rfl (w.heap.size) rfl 29 cs (0, 0) _ x0.out Tryz.underlying29 rfl HIN.out ?_)
      | (go_at_call 21; (with_reducible refine (HCK.out _ b0.out).mono ?_); rintro e w1 ⟨rfl, hb⟩; have D1 := Lib.hid (bel_on b0.out hb); clear hb; simp only [ckSt]))
    go_ret2
    exact ⟨rfl, D1.out⟩
end Go.Proofs.YtenpkmgbaajeeaaGreat

/- The law CodeThreshold: the walk. -/
namespace Go.Proofs.YtenpkmgbaajeeaaGreat
open Go.RowKit
set_option linter.unusedVariables false
set_option linter.unusedSimpArgs false

theorem bin_sm {d : Nat} (h : d ≤ 64) : Sm (bin (2 * d) d) := sm_bin (by omega)
theorem bin_ne (d : Nat) : bin (2 * d) d ≠ 0 := by have := bin_pos (a := 2 * d) (b := d) (by omega); omega
theorem divs_sm {d k X : Nat} (hd : d ≤ 64) (hk : k ≤ 2 * d) (hX : X ≤ k + 1) : Sm (divsN d k X) := (bin_sm hd).mono (by have := divsN_sym hk hX; omega)
/-- The tail of the threshold is at most the limit, and that of the next number is above it. -/
theorem thr_tails {s : StV} (hok : s.ok = true) {d K : Nat} (hd : s.b = (d : Int)) (hK : K ≤ 2 * d) : ∃ X : Nat, s.th K + 1 = (X : Int) ∧ X + 1 ≤ K + 1 ∧ -1 ≤ s.th K ∧ s.th K < K ∧
    cmpFS (lowS (divsN d K X) (bin (2 * d) d)).1 (lowS (divsN d K X) (bin (2 * d) d)).2 s.x s.y = (cmpN (divsN d K X * val s.y) (val s.x * bin (2 * d) d), 0) ∧ cmpN (divsN d K X * val s.y) (val s.x * bin (2 * d) d) ≤ 0 ∧
    cmpFS (lowS (divsN d K (X + 1)) (bin (2 * d) d)).1 (lowS (divsN d K (X + 1)) (bin (2 * d) d)).2 s.x s.y = (cmpN (divsN d K (X + 1) * val s.y) (val s.x * bin (2 * d) d), 0) ∧ 0 < cmpN (divsN d K (X + 1) * val s.y) (val s.x * bin (2 * d) d) := by
  obtain ⟨⟨q1, q2, q3, q4⟩, hl⟩ := StV.parts hok
  obtain ⟨hv, h2, h3, h4⟩ := limB_iff.1 hl
  have e : s.th K = thS d K (val s.x) (val s.y) := by unfold StV.th; rw [hd, Int.toNat_natCast]
  have h5 := thS_ge d K (val s.x) (val s.y)
  have h6 := thS_lt hK h4
  have h7 := thS_over h6
  rw [e]
  obtain ⟨X, hX⟩ : ∃ X : Nat, thS d K (val s.x) (val s.y) + 1 = (X : Int) := ⟨(thS d K (val s.x) (val s.y) + 1).toNat, by omega⟩
  rw [show (thS d K (val s.x) (val s.y) + 2).toNat = X + 1 from by omega] at h7
  refine ⟨X, hX, by omega, h5, h6, low_cmp (bin_ne d) (divs_sm (by omega) hK (by omega)) (bin_sm (by omega)) hv, cmpN_le0.2 ?_, low_cmp (bin_ne d) (divs_sm (by omega) hK (by omega)) (bin_sm (by omega)) hv, cmpN_gt0.2 h7⟩
  cases X with
  | zero => simp [divsN, sumN]
  | succ X => exact thS_under (by omega)
set_option maxHeartbeats 8000000 in
set_option maxRecDepth 100000 in
theorem codeThreshold_walk0 (s : StV) (k : Int) (w0 : World) (h0 : StOK w0 s) (hk1 : -9223372036854775808 ≤ k) (hk2 : k ≤ 9223372036854775807) :
    Calls Tryz.prog 10 #[.agg s.cs.toArray, .int .i64 k] w0 fun e w' => e = .returned (.bool true) ∧ Below w0.heap.size w0 w' := by
  have hk := h0.k16
  obtain ⟨w, hW0⟩ : ∃ W : World, W = w0.alloc (.cells s.cs.toArray 29) := ⟨_, rfl⟩
  have b0 : Hid (Below w0.heap.size w0 w) := by unfold Hid; rw [hW0]; exact alloc_bel _ _
  have x0 : Hid (Blk w w0.heap.size 29 s.cs.toArray) := by unfold Hid; rw [hW0]; exact Blk.new w0 _ _
  have h := h0.below b0.out
  have HW0 := Lib.hid hW0
  have HIN := Lib.hid (StV.info (s := s) hk)
  have K0 : Hid (Below w.heap.size w w) := Below.refl _ _
  have HX : Hid (∀ W, Below w.heap.size w W → Blk W w0.heap.size 29 s.cs.toArray) := fun W hW => x0.out.below' hW
  have HTH : Hid (∀ W, Below w.heap.size w W → Calls Tryz.prog 50 #[.agg s.cs.toArray, .int .i64 k] W fun e w' => e = .returned (.tuple #[.int .i64 (thrS s k).1, .int .i64 (thrS s k).2]) ∧ Below W.heap.size W w') := fun W hW => Threshold_any s k W (h.below hW)
  have HVS : Hid (∀ W, Below w.heap.size w W → Calls Tryz.prog 43 #[.agg s.cs.toArray] W fun e w' => e = .returned (.bool s.ok) ∧ Below W.heap.size W w') := fun W hW => refValidSteps_any s W (h.below hW)
  by_cases hok : s.ok = true
  · obtain ⟨⟨q1, q2, q3, q4⟩, -⟩ := StV.parts hok
    obtain ⟨D, hD⟩ : ∃ D : Nat, s.b = (D : Int) := ⟨s.b.toNat, by omega⟩
    have HCL : Hid (∀ W, Below w.heap.size w W → W.cell? ⟨w0.heap.size, 0, none⟩ = some (.int .i64 s.u) ∧ W.cell? ⟨w0.heap.size, 1, none⟩ = some (.int .i64 (D : Int)) ∧ W.cell? ⟨w0.heap.size, 18, none⟩ = some (.slice s.A s.x.length s.ca) ∧ W.cell? ⟨w0.heap.size, 19, none⟩ = some (.slice s.Bd s.y.length s.cb)) := fun W hW => by
      have := StV.cells hk (x0.out.below' hW)
      rw [hD] at this
      exact this
    by_cases hr : k < 0 ∨ 2 * s.b < k
    · have e1 : thrS s k = (0, 2) := by unfold thrS; rw [if_pos hok, if_pos hr]
      rw [e1] at HTH
      rw [hok] at HVS
      rw [hD] at hr
      have hD64 : (D : Int) ≤ 64 := by omega
      generalize s.cs.toArray = cs at *
      clear hok hW0 h h0 hk q1 q2 q3 q4
      go_enter Tryz.func10, Tryz.ntmps10
      go_wp2_with (rw [← HW0.out])
      refine (alive_any _).mono ?_
      rintro e w1 ⟨rfl, hb1⟩
      have K1 : Hid (Below w.heap.size w w1) := hb1
      have X1 := Lib.hid (HX.out _ K1.out)
      clear hb1
      go_wp2_with (refine wpList_load_row rfl 29 (.tmp 2) rfl w0.heap.size rfl 29 cs (0, 0) _ X1.out Tryz.underlying29 rfl HIN.out ?_)
      refine (HTH.out _ K1.out).mono ?_
      rintro e w2 ⟨rfl, hb2⟩
      have K2 : Hid (Below w.heap.size w w2) := bel_on K1.out hb2
      have X2 := Lib.hid (HX.out _ K2.out)
      clear hb2
      go_wp2_with (refine wpList_load_row rfl 29 (.tmp 2) rfl w0.heap.size rfl 29 cs (0, 0) _ X2.out Tryz.underlying29 rfl HIN.out ?_)
      refine (HVS.out _ K2.out).mono ?_
      rintro e w3 ⟨rfl, hb3⟩
      have K3 : Hid (Below w.heap.size w w3) := bel_on K2.out hb3
      obtain ⟨-, c1, -, -⟩ := HCL.out _ K3.out
      clear hb3
      by_cases hk0 : k < 0
      · go_wp2_with fail
        go_ret
        exact ⟨by simp, bel_on b0.out K3.out⟩
      · have hk3 : 2 * (D : Int) < k := by omega
        go_wp2_with fail
        go_ret
        exact ⟨by simp, bel_on b0.out K3.out⟩
    · obtain ⟨K, rfl⟩ : ∃ K : Nat, k = (K : Int) := ⟨k.toNat, by omega⟩
      have e1 : thrS s K = (s.th K, 0) := by unfold thrS; rw [if_pos hok, if_neg hr, Int.toNat_natCast]
      obtain ⟨X, hX, hXK, t1, t2, r1, r2, r3, r4⟩ := thr_tails hok hD (show K ≤ 2 * D by omega)
      have u1 := tailS_yes hX (show 1 ≤ D by omega) (by omega) (show K ≤ 2 * D by omega) (show X ≤ K + 1 by omega)
      have u2 := tailS_yes (show s.th K + 1 + 1 = ((X + 1 : Nat) : Int) by omega) (show 1 ≤ D by omega) (by omega) (show K ≤ 2 * D by omega) hXK
      rw [e1] at HTH
      rw [hok] at HVS
      have HCM1 : Hid (∀ W A a B b, Below w.heap.size w W → NR W A a (lowS (divsN D K X) (bin (2 * D) D)).1 → NR W B b (lowS (divsN D K X) (bin (2 * D) D)).2 → Calls Tryz.prog 54 #[.agg #[.slice A (lowS (divsN D K X) (bin (2 * D) D)).1.length a, .slice B (lowS (divsN D K X) (bin (2 * D) D)).2.length b], .agg #[.slice s.A s.x.length s.ca, .slice s.Bd s.y.length s.cb]] W fun e w' => e = .returned (.tuple #[.int .i64 (cmpN (divsN D K X * val s.y) (val s.x * bin (2 * D) D)), .int .i64 0]) ∧ Below W.heap.size W w') := fun W A a B b hW g1 g2 => (CompareFractions_any A a _ B b _ s.A s.ca s.x s.Bd s.cb s.y W rfl rfl rfl rfl g1 g2 (h.hx.below hW) (h.hy.below hW)).mono fun e w' hq => by
        rw [r1] at hq
        exact hq
      have HCM2 : Hid (∀ W A a B b, Below w.heap.size w W → NR W A a (lowS (divsN D K (X + 1)) (bin (2 * D) D)).1 → NR W B b (lowS (divsN D K (X + 1)) (bin (2 * D) D)).2 → Calls Tryz.prog 54 #[.agg #[.slice A (lowS (divsN D K (X + 1)) (bin (2 * D) D)).1.length a, .slice B (lowS (divsN D K (X + 1)) (bin (2 * D) D)).2.length b], .agg #[.slice s.A s.x.length s.ca, .slice s.Bd s.y.length s.cb]] W fun e w' => e = .returned (.tuple #[.int .i64 (cmpN (divsN D K (X + 1) * val s.y) (val s.x * bin (2 * D) D)), .int .i64 0]) ∧ Below W.heap.size W w') := fun W A a B b hW g1 g2 => (CompareFractions_any A a _ B b _ s.A s.ca s.x s.Bd s.cb s.y W rfl rfl rfl rfl g1 g2 (h.hx.below hW) (h.hy.below hW)).mono fun e w' hq => by
        rw [r3] at hq
        exact hq
      obtain ⟨z1, hz1⟩ : ∃ z, cmpN (divsN D K X * val s.y) (val s.x * bin (2 * D) D) = z := ⟨_, rfl⟩
      obtain ⟨z2, hz2⟩ : ∃ z, cmpN (divsN D K (X + 1) * val s.y) (val s.x * bin (2 * D) D) = z := ⟨_, rfl⟩
      rw [hz1] at HCM1 r2
      rw [hz2] at HCM2 r4
      obtain ⟨th, hth⟩ : ∃ q, s.th K = q := ⟨_, rfl⟩
      rw [hth] at HTH t1 t2 u1 u2
      have HT1 : Hid (∀ W, Calls Tryz.prog 55 #[.int .i64 (D : Int), .int .i64 (K : Int), .int .i64 th] W fun e w' => ∃ X x' Z z, e = .returned (.tuple #[.agg #[.slice X (tailS (D : Int) (K : Int) th).1.1.length x', .slice Z (tailS (D : Int) (K : Int) th).1.2.length z], .int .i64 (tailS (D : Int) (K : Int) th).2]) ∧ NR w' X x' (tailS (D : Int) (K : Int) th).1.1 ∧ NR w' Z z (tailS (D : Int) (K : Int) th).1.2 ∧ Below W.heap.size W w') := fun W => (Tail_any (D : Int) (K : Int) th W).mono fun e w' h => frac2_open_ h
      have HT2 : Hid (∀ W, Calls Tryz.prog 55 #[.int .i64 (D : Int), .int .i64 (K : Int), .int .i64 (th + 1)] W fun e w' => ∃ X x' Z z, e = .returned (.tuple #[.agg #[.slice X (tailS (D : Int) (K : Int) (th + 1)).1.1.length x', .slice Z (tailS (D : Int) (K : Int) (th + 1)).1.2.length z], .int .i64 (tailS (D : Int) (K : Int) (th + 1)).2]) ∧ NR w' X x' (tailS (D : Int) (K : Int) (th + 1)).1.1 ∧ NR w' Z z (tailS (D : Int) (K : Int) (th + 1)).1.2 ∧ Below W.heap.size W w') := fun W => (Tail_any (D : Int) (K : Int) (th + 1) W).mono fun e w' h => frac2_open_ h
      rw [u1] at HT1
      rw [u2] at HT2
      dsimp only at HT1 HT2
      have g1 : ¬ ((K : Int) < 0) := by omega
      have g2 : ¬ (2 * (D : Int) < (K : Int)) := by omega
      have g3 : (D : Int) ≤ 64 := by omega
      have g4 : (K : Int) ≤ 128 := by omega
      have g5 : th ≤ 128 := by omega
      generalize (lowS (divsN D K X) (bin (2 * D) D)) = l1 at *
      generalize (lowS (divsN D K (X + 1)) (bin (2 * D) D)) = l2 at *
      obtain ⟨l1a, l1b⟩ := l1
      obtain ⟨l2a, l2b⟩ := l2
      dsimp only at *
      generalize l1a.length = n1a at *
      generalize l1b.length = n1b at *
      generalize l2a.length = n2a at *
      generalize l2b.length = n2b at *
      generalize s.x.length = lx at *
      generalize s.y.length = ly at *
      generalize s.cs.toArray = cs at *
      clear hok hW0 h h0 hk q1 q2 q3 q4 hr hX hXK r1 r3 u1 u2 hz1 hz2 hth e1
      go_enter Tryz.func10, Tryz.ntmps10
      go_wp2_with (rw [← HW0.out])
      refine (alive_any _).mono ?_
      rintro e w1 ⟨rfl, hb1⟩
      have K1 : Hid (Below w.heap.size w w1) := hb1
      have X1 := Lib.hid (HX.out _ K1.out)
      clear hb1
      go_wp2_with (refine wpList_load_row rfl 29 (.tmp 2) rfl w0.heap.size rfl 29 cs (0, 0) _ X1.out Tryz.underlying29 rfl HIN.out ?_)
      refine (HTH.out _ K1.out).mono ?_
      rintro e w2 ⟨rfl, hb2⟩
      have K2' : Hid (Below w.heap.size w w2) := bel_on K1.out hb2
      have X2 := Lib.hid (HX.out _ K2'.out)
      clear hb2
      go_wp2_with (refine wpList_load_row rfl 29 (.tmp 2) rfl w0.heap.size rfl 29 cs (0, 0) _ X2.out Tryz.underlying29 rfl HIN.out ?_)
      refine (HVS.out _ K2'.out).mono ?_
      rintro e w2b ⟨rfl, hb2⟩
      have K2 : Hid (Below w.heap.size w w2b) := bel_on K2'.out hb2
      obtain ⟨-, c1, -, -⟩ := HCL.out _ K2.out
      clear hb2
      go_wp2_with fail
      clear c1
      refine (HT1.out _).mono ?_
      rintro e w3 ⟨X3, x3, Z3, z3, rfl, gx3, gz3, hb3⟩
      obtain ⟨w3b, hw3⟩ : ∃ W, W = w3.alloc (.cells #[.slice X3 n1a x3, .slice Z3 n1b z3] 27) := ⟨_, rfl⟩
      have d3 : Below w3.heap.size w3 w3b := by rw [hw3]; exact alloc_bel _ _
      have hbb3 := bel_on hb3 d3
      have K3 : Hid (Below w.heap.size w w3b) := bel_on K2.out hbb3
      have T3 : Hid (Blk w3b w3.heap.size 27 #[.slice X3 n1a x3, .slice Z3 n1b z3]) := by unfold Hid; rw [hw3]; exact Blk.new _ _ _
      have GX3 := Lib.hid (gx3.below d3)
      have GZ3 := Lib.hid (gz3.below d3)
      have HW3 := Lib.hid hw3
      clear hw3 d3 hbb3 hb3 gx3 gz3
      have q0 := T3.out.cell 0
      have q1 := T3.out.cell 1
      obtain ⟨c0, c1, c18, c19⟩ := HCL.out _ K3.out
      go_wp2_with (rw [← HW3.out])
      refine (HCM1.out _ _ _ _ _ K3.out GX3.out GZ3.out).mono ?_
      rintro e w4 ⟨rfl, hb4⟩
      have K4 : Hid (Below w.heap.size w w4) := bel_on K3.out hb4
      clear hb4 q0 q1 c0 c1 c18 c19
      obtain ⟨-, c1, -, -⟩ := HCL.out _ K4.out
      go_wp2_with fail
      clear c1
      refine (HT2.out _).mono ?_
      rintro e w5 ⟨X5, x5, Z5, z5, rfl, gx5, gz5, hb5⟩
      obtain ⟨w5b, hw5⟩ : ∃ W, W = w5.alloc (.cells #[.slice X5 n2a x5, .slice Z5 n2b z5] 27) := ⟨_, rfl⟩
      have d5 : Below w5.heap.size w5 w5b := by rw [hw5]; exact alloc_bel _ _
      have hbb5 := bel_on hb5 d5
      have K5 : Hid (Below w.heap.size w w5b) := bel_on K4.out hbb5
      have T5 : Hid (Blk w5b w5.heap.size 27 #[.slice X5 n2a x5, .slice Z5 n2b z5]) := by unfold Hid; rw [hw5]; exact Blk.new _ _ _
      have GX5 := Lib.hid (gx5.below d5)
      have GZ5 := Lib.hid (gz5.below d5)
      have HW5 := Lib.hid hw5
      clear hw5 d5 hbb5 hb5 gx5 gz5
      have q0 := T5.out.cell 0
      have q1 := T5.out.cell 1
      obtain ⟨c0, c1, c18, c19⟩ := HCL.out _ K5.out
      go_wp2_with (rw [← HW5.out])
      refine (HCM2.out _ _ _ _ _ K5.out GX5.out GZ5.out).mono ?_
      rintro e w6 ⟨rfl, hb6⟩
      have K6 : Hid (Below w.heap.size w w6) := bel_on K5.out hb6
      clear hb6 q0 q1 c0 c1 c18 c19
      go_wp2_with fail
      go_ret
      exact ⟨by simp, bel_on b0.out K6.out⟩
  · have hok2 : s.ok = false := by simpa using hok
    have e1 : thrS s k = (0, 70) := by unfold thrS; rw [if_neg hok]
    rw [e1] at HTH
    rw [hok2] at HVS
    generalize s.cs.toArray = cs at *
    clear hok hok2 hW0 h h0 hk
    go_enter Tryz.func10, Tryz.ntmps10
    go_wp2_with (rw [← HW0.out])
    refine (alive_any _).mono ?_
    rintro e w1 ⟨rfl, hb1⟩
    have K1 : Hid (Below w.heap.size w w1) := hb1
    have X1 := Lib.hid (HX.out _ K1.out)
    clear hb1
    go_wp2_with (refine wpList_load_row rfl 29 (.tmp 2) rfl w0.heap.size rfl 29 cs (0, 0) _ X1.out Tryz.underlying29 rfl HIN.out ?_)
    refine (HTH.out _ K1.out).mono ?_
    rintro e w2 ⟨rfl, hb2⟩
    have K2 : Hid (Below w.heap.size w w2) := bel_on K1.out hb2
    have X2 := Lib.hid (HX.out _ K2.out)
    clear hb2
    go_wp2_with (refine wpList_load_row rfl 29 (.tmp 2) rfl w0.heap.size rfl 29 cs (0, 0) _ X2.out Tryz.underlying29 rfl HIN.out ?_)
    refine (HVS.out _ K2.out).mono ?_
    rintro e w3 ⟨rfl, hb3⟩
    have K3 : Hid (Below w.heap.size w w3) := bel_on K2.out hb3
    clear hb3
    go_wp2_with fail
    go_ret
    exact ⟨by simp, bel_on b0.out K3.out⟩
theorem codeThreshold_walk (s : StV) (k : Int) (w : World) (h : StOK w s) (h1 : -9223372036854775808 ≤ k) (h2 : k ≤ 9223372036854775807) :
    Calls Tryz.prog 10 #[.agg s.cs.toArray, .int .i64 k] w fun e w' => e = .returned (.bool true) ∧ Below w.heap.size w w' := codeThreshold_walk0 s k w h h1 h2
end Go.Proofs.YtenpkmgbaajeeaaGreat

/- The law CodeEscapes: the walk. -/
namespace Go.Proofs.YtenpkmgbaajeeaaGreat
open Go.RowKit
set_option linter.unusedVariables false
set_option linter.unusedSimpArgs false

/-- A code of three users. -/
theorem three_users {s : StV} (hok : s.ok = true) (hu : s.u = 3) {d : Nat} (hd : s.b = (d : Int)) : s.cmp = decide (0 ≤ s.th d) ∧ s.nmsW [0, d] = (if 0 ≤ s.th d then [1] else []) := by
  constructor
  · unfold StV.cmp
    rw [hu, hd, Int.toNat_natCast, show (3 : Int).toNat - 2 = 1 from rfl, complete_three (num := 0) (den := 0)]
    by_cases g : s.th d < 0
    · rw [decide_eq_true g, decide_eq_false (by omega)]; rfl
    · rw [decide_eq_false g, decide_eq_true (by omega)]; rfl
  · unfold StV.nmsW namesS
    rw [hu, hd, Int.toNat_natCast, show (3 : Int).toNat = 3 from rfl]
    have e0 : namedB 3 d (val s.x) (val s.y) [0, d] 0 = false := by unfold namedB; rw [if_pos rfl]; rfl
    have e2 : namedB 3 d (val s.x) (val s.y) [0, d] 2 = false := by unfold namedB; rw [if_neg (by omega), if_pos rfl]; simp
    have e1 : namedB 3 d (val s.x) (val s.y) [0, d] 1 = decide (0 ≤ s.th d) := by
      unfold namedB StV.th
      rw [if_neg (by omega), if_neg (by omega), hd, Int.toNat_natCast]
      simp
    rw [show (3 : Nat) = 2 + 1 from rfl, namesF_no e2, namesF, namesF_no e0, e1]
    by_cases g : 0 ≤ s.th d
    · simp [g, namesF]
    · simp [g, namesF]
theorem esc_cmp {s : StV} (hok : s.ok = true) {d : Nat} (hd : s.b = (d : Int)) : cmpFS (lowS (divsN d d 1) (bin (2 * d) d)).1 (lowS (divsN d d 1) (bin (2 * d) d)).2 s.x s.y = (cmpN (divsN d d 1 * val s.y) (val s.x * bin (2 * d) d), 0) ∧ (cmpN (divsN d d 1 * val s.y) (val s.x * bin (2 * d) d) ≤ 0 ↔ 0 ≤ s.th d) := by
  obtain ⟨⟨q1, q2, q3, q4⟩, hl⟩ := StV.parts hok
  obtain ⟨hv, h2, h3, h4⟩ := limB_iff.1 hl
  refine ⟨low_cmp (bin_ne d) (divs_sm (by omega) (by omega) (by omega)) (bin_sm (by omega)) hv, ?_⟩
  rw [cmpN_le0]
  have h5 := thS_neg d d (val s.x) (val s.y)
  have e : s.th d = thS d d (val s.x) (val s.y) := by unfold StV.th; rw [hd, Int.toNat_natCast]
  rw [e]
  unfold underB at h5
  rw [decide_eq_false_iff_not] at h5
  constructor
  · intro g
    rcases Int.lt_or_le (thS d d (val s.x) (val s.y)) 0 with g2 | g2
    · exact absurd g (h5.1 g2)
    · exact g2
  · intro g
    apply Classical.byContradiction
    intro g2
    have := h5.2 g2
    omega
theorem ints_lit3 (w : World) (d : Nat) (hd : d ≤ 1000) {W : World} (hW : W = w.alloc (.cells #[.int .i64 0, .int .i64 (d : Int)] 3)) : IR W (some ⟨w.heap.size, 0, none⟩) 2 (natI [0, d]) ∧ Below w.heap.size w W := by
  refine ints_lit1 w (natI [0, d]) (na := 2) rfl (by omega) (fun x hx => ?_) hW
  simp [natI] at hx
  omega
set_option maxHeartbeats 8000000 in
set_option maxRecDepth 100000 in
theorem codeEscapes_walk0 (s : StV) (w0 : World) (h0 : StOK w0 s) :
    Calls Tryz.prog 16 #[.agg s.cs.toArray] w0 fun e w' => e = .returned (.bool true) ∧ Below w0.heap.size w0 w' := by
  have hk := h0.k16
  obtain ⟨w, hW0⟩ : ∃ W : World, W = w0.alloc (.cells s.cs.toArray 29) := ⟨_, rfl⟩
  have b0 : Hid (Below w0.heap.size w0 w) := by unfold Hid; rw [hW0]; exact alloc_bel _ _
  have HX : Hid (∀ W, Below w.heap.size w W → Blk W w0.heap.size 29 s.cs.toArray) := fun W hW => Blk.below' (by rw [hW0]; exact Blk.new w0 _ _) hW
  have h := h0.below b0.out
  have HW0 := Lib.hid hW0
  have HIN := Lib.hid (StV.info (s := s) hk)
  have K0 : Hid (Below w.heap.size w w) := Below.refl _ _
  have HVS : Hid (∀ W, Below w.heap.size w W → Calls Tryz.prog 43 #[.agg s.cs.toArray] W fun e w' => e = .returned (.bool s.ok) ∧ Below W.heap.size W w') := fun W hW => refValidSteps_any s W (h.below hW)
  by_cases hok : s.ok = true
  · obtain ⟨⟨q1, q2, q3, q4⟩, -⟩ := StV.parts hok
    obtain ⟨D, hD⟩ : ∃ D : Nat, s.b = (D : Int) := ⟨s.b.toNat, by omega⟩
    have HCL : Hid (∀ W, Below w.heap.size w W → W.cell? ⟨w0.heap.size, 0, none⟩ = some (.int .i64 s.u) ∧ W.cell? ⟨w0.heap.size, 1, none⟩ = some (.int .i64 (D : Int)) ∧ W.cell? ⟨w0.heap.size, 18, none⟩ = some (.slice s.A s.x.length s.ca) ∧ W.cell? ⟨w0.heap.size, 19, none⟩ = some (.slice s.Bd s.y.length s.cb)) := fun W hW => by
      have := StV.cells hk (HX.out W hW)
      rw [hD] at this
      exact this
    have HCP : Hid (∀ W, Below w.heap.size w W → Calls Tryz.prog 61 #[.agg s.cs.toArray] W fun e w' => e = .returned (.tuple #[.bool s.cmp, .int .i64 0]) ∧ Below W.heap.size W w') := fun W hW => complete_good s W (h.below hW) hok
    rw [hok] at HVS
    by_cases hgt : 3 < s.u
    · obtain ⟨u, hu⟩ : ∃ u, s.u = u := ⟨_, rfl⟩
      rw [hu] at HCL hgt
      generalize s.cs.toArray = cs at *
      clear hok hW0 h h0 hk q1 q2 q3 q4 HCP hu
      go_enter Tryz.func16, Tryz.ntmps16
      go_wp2_with (rw [← HW0.out])
      refine (alive_any _).mono ?_
      rintro e w1 ⟨rfl, hb1⟩
      have K1 : Hid (Below w.heap.size w w1) := bel_on K0.out hb1
      clear hb1
      go_wp2_with (refine wpList_load_row rfl 29 (.tmp 1) rfl w0.heap.size rfl 29 cs (0, 0) _ (HX.out _ K1.out) Tryz.underlying29 rfl HIN.out ?_)
      refine (HVS.out _ K1.out).mono ?_
      rintro e w2 ⟨rfl, hb2⟩
      have K2 : Hid (Below w.heap.size w w2) := bel_on K1.out hb2
      have c0 := (HCL.out _ K2.out).1
      clear hb2
      go_wp2_with fail
      go_ret
      exact ⟨by simp, bel_on b0.out K2.out⟩
    · by_cases hu2 : s.u = 2
      · have hcm : s.cmp = true := by
          unfold StV.cmp
          rw [hu2, show (2 : Int).toNat - 2 = 0 from rfl, complete_two (by omega)]; rfl
        rw [hcm] at HCP
        rw [hu2] at HCL
        generalize s.cs.toArray = cs at *
        clear hok hW0 h h0 hk q1 q2 q3 q4 hcm hu2 hgt
        go_enter Tryz.func16, Tryz.ntmps16
        go_wp2_with (rw [← HW0.out])
        refine (alive_any _).mono ?_
        rintro e w1 ⟨rfl, hb1⟩
        have K1 : Hid (Below w.heap.size w w1) := bel_on K0.out hb1
        clear hb1
        go_wp2_with (refine wpList_load_row rfl 29 (.tmp 1) rfl w0.heap.size rfl 29 cs (0, 0) _ (HX.out _ K1.out) Tryz.underlying29 rfl HIN.out ?_)
        refine (HVS.out _ K1.out).mono ?_
        rintro e w2 ⟨rfl, hb2⟩
        have K2 : Hid (Below w.heap.size w w2) := bel_on K1.out hb2
        have c0 := (HCL.out _ K2.out).1
        clear hb2
        go_wp2_with (refine wpList_load_row rfl 29 (.tmp 1) rfl w0.heap.size rfl 29 cs (0, 0) _ (HX.out _ K2.out) Tryz.underlying29 rfl HIN.out ?_)
        clear c0
        refine (HCP.out _ K2.out).mono ?_
        rintro e w3 ⟨rfl, hb3⟩
        have K3 : Hid (Below w.heap.size w w3) := bel_on K2.out hb3
        have c0 := (HCL.out _ K3.out).1
        clear hb3
        go_wp2_with fail
        go_ret
        exact ⟨by simp, bel_on b0.out K3.out⟩
      · have hu3 : s.u = 3 := by omega
        obtain ⟨hcm, hnm⟩ := three_users hok hu3 hD
        obtain ⟨v1, v2⟩ := esc_cmp hok hD
        have u1 := tailS_yes (d := D) (k := D) (X := 1) (x := 0) (by omega) (by omega) (by omega) (by omega) (by omega)
        have HT : Hid (∀ W, Calls Tryz.prog 55 #[.int .i64 (D : Int), .int .i64 (D : Int), .int .i64 0] W fun e w' => ∃ X x' Z z, e = .returned (.tuple #[.agg #[.slice X (tailS (D : Int) (D : Int) 0).1.1.length x', .slice Z (tailS (D : Int) (D : Int) 0).1.2.length z], .int .i64 (tailS (D : Int) (D : Int) 0).2]) ∧ NR w' X x' (tailS (D : Int) (D : Int) 0).1.1 ∧ NR w' Z z (tailS (D : Int) (D : Int) 0).1.2 ∧ Below W.heap.size W w') := fun W => (Tail_any (D : Int) (D : Int) 0 W).mono fun e w' h => frac2_open_ h
        rw [u1] at HT
        dsimp only at HT
        have HCM : Hid (∀ W A a B b, Below w.heap.size w W → NR W A a (lowS (divsN D D 1) (bin (2 * D) D)).1 → NR W B b (lowS (divsN D D 1) (bin (2 * D) D)).2 → Calls Tryz.prog 54 #[.agg #[.slice A (lowS (divsN D D 1) (bin (2 * D) D)).1.length a, .slice B (lowS (divsN D D 1) (bin (2 * D) D)).2.length b], .agg #[.slice s.A s.x.length s.ca, .slice s.Bd s.y.length s.cb]] W fun e w' => e = .returned (.tuple #[.int .i64 (cmpN (divsN D D 1 * val s.y) (val s.x * bin (2 * D) D)), .int .i64 0]) ∧ Below W.heap.size W w') := fun W A a B b hW g1 g2 => (CompareFractions_any A a _ B b _ s.A s.ca s.x s.Bd s.cb s.y W rfl rfl rfl rfl g1 g2 (h.hx.below hW) (h.hy.below hW)).mono fun e w' hq => by
          rw [v1] at hq
          exact hq
        have hwd : ∀ b, b < 2 → ((([0, D] : List Nat).getD b 0 : Nat) : Int) ≤ s.b := fun b hb => by
          have hb2 : b = 0 ∨ b = 1 := by omega
          rw [hD]
          rcases hb2 with rfl | rfl <;> simp
        have hDD : (D : Int) ≤ 64 := by omega
        have hD1 : 1 ≤ (D : Int) := by omega
        by_cases hth : 0 ≤ s.th D
        · have HNM : Hid (∀ P c Q cq W, Below w.heap.size w W → IR W P c (natI [0, D]) → IR W Q cq [1] → Calls Tryz.prog 59 #[.agg s.cs.toArray, .slice P 2 c, .slice Q 1 cq] W fun e w' => e = .returned (.bool true) ∧ Below W.heap.size W w') := fun P c Q cq W hW g1 g2 => by
            have := lawNames_any s P c [0, D] Q cq [1] W (h.below hW) hok (mw := 2) (nq := 1) rfl rfl (by rw [hu3]; rfl) hwd g1 g2
            rwa [hnm, if_pos hth, show sameI [1] [1] = true from rfl] at this
          rw [hcm, decide_eq_true hth] at HCP
          obtain ⟨z, hz⟩ : ∃ z, cmpN (divsN D D 1 * val s.y) (val s.x * bin (2 * D) D) = z := ⟨_, rfl⟩
          have hzz : z ≤ 0 := by rw [← hz]; exact v2.2 hth
          rw [hz] at HCM
          generalize (lowS (divsN D D 1) (bin (2 * D) D)) = l1 at *
          obtain ⟨l1a, l1b⟩ := l1
          dsimp only at *
          generalize l1a.length = n1a at *
          generalize l1b.length = n1b at *
          generalize s.x.length = lx at *
          generalize s.y.length = ly at *
          generalize s.cs.toArray = cs at *
          clear hok hW0 h h0 hk q1 q2 q3 q4 v1 v2 hz hcm hnm hth u1 hwd hgt hD hu2
          rw [hu3] at HCL
          clear hu3
          go_enter Tryz.func16, Tryz.ntmps16
          go_wp2_with (rw [← HW0.out])
          refine (alive_any _).mono ?_
          rintro e w1 ⟨rfl, hb1⟩
          have K1 : Hid (Below w.heap.size w w1) := bel_on K0.out hb1
          clear hb1
          go_wp2_with (refine wpList_load_row rfl 29 (.tmp 1) rfl w0.heap.size rfl 29 cs (0, 0) _ (HX.out _ K1.out) Tryz.underlying29 rfl HIN.out ?_)
          refine (HVS.out _ K1.out).mono ?_
          rintro e w2 ⟨rfl, hb2⟩
          have K2 : Hid (Below w.heap.size w w2) := bel_on K1.out hb2
          have c0 := (HCL.out _ K2.out).1
          clear hb2
          go_wp2_with (refine wpList_load_row rfl 29 (.tmp 1) rfl w0.heap.size rfl 29 cs (0, 0) _ (HX.out _ K2.out) Tryz.underlying29 rfl HIN.out ?_)
          clear c0
          refine (HCP.out _ K2.out).mono ?_
          rintro e w3 ⟨rfl, hb3⟩
          have K3 : Hid (Below w.heap.size w w3) := bel_on K2.out hb3
          have c0 := (HCL.out _ K3.out).1
          have c1 := (HCL.out _ K3.out).2.1
          clear hb3
          go_wp2_with fail
          clear c0 c1
          refine (HT.out _).mono ?_
          rintro e w4 ⟨X4, x4, Z4, z4, rfl, gx4, gz4, hb4⟩
          obtain ⟨w4b, hw4⟩ : ∃ W, W = w4.alloc (.cells #[.slice X4 n1a x4, .slice Z4 n1b z4] 27) := ⟨_, rfl⟩
          have d4 : Below w4.heap.size w4 w4b := by rw [hw4]; exact alloc_bel _ _
          have hbb4 := bel_on hb4 d4
          have K4 : Hid (Below w.heap.size w w4b) := bel_on K3.out hbb4
          have T4 : Hid (Blk w4b w4.heap.size 27 #[.slice X4 n1a x4, .slice Z4 n1b z4]) := by unfold Hid; rw [hw4]; exact Blk.new _ _ _
          have GX4 := Lib.hid (gx4.below d4)
          have GZ4 := Lib.hid (gz4.below d4)
          have HW4 := Lib.hid hw4
          clear hw4 d4 hbb4 hb4 gx4 gz4
          have q0 := T4.out.cell 0
          have q1 := T4.out.cell 1
          obtain ⟨c0, c1, c18, c19⟩ := HCL.out _ K4.out
          go_wp2_with (rw [← HW4.out])
          refine (HCM.out _ _ _ _ _ K4.out GX4.out GZ4.out).mono ?_
          rintro e w5 ⟨rfl, hb5⟩
          have K5 : Hid (Below w.heap.size w w5) := bel_on K4.out hb5
          clear hb5 q0 q1 c0 c1 c18 c19
          obtain ⟨wx, hwx⟩ : ∃ W, W = w5.alloc (.cells #[.int .i64 0, .int .i64 (D : Int)] 3) := ⟨_, rfl⟩
          obtain ⟨i1, dx⟩ := ints_lit3 w5 D (by omega) hwx
          obtain ⟨wy, hwy⟩ : ∃ W, W = wx.alloc (.cells #[.int .i64 1] 3) := ⟨_, rfl⟩
          obtain ⟨i2, dy⟩ := ints_lit1 wx [1] (na := 1) rfl (by omega) (by simp) hwy
          have KY : Hid (Below w.heap.size w wy) := bel_on K5.out (bel_on dx dy)
          have HN : Hid (Calls Tryz.prog 59 #[.agg cs, .slice (some ⟨w5.heap.size, 0, none⟩) 2 2, .slice (some ⟨wx.heap.size, 0, none⟩) 1 1] wy fun e w' => e = .returned (.bool true) ∧ Below wy.heap.size wy w') := HNM.out _ _ _ _ _ KY.out (i1.below dy) i2
          have HWX := Lib.hid hwx
          have HWY := Lib.hid hwy
          clear hwx hwy i1 i2 dx dy
          have c1 := (HCL.out _ K5.out).2.1
          go_wp2_with (first | (rw [← HWX.out]) | (rw [← HWY.out]) | (refine BigFrame.wpList_want (by rfl) fun K' hK' => wp_load_row 29 (.tmp 1) rfl w0.heap.size rfl 29 cs (0, 0) _ (HX.out _ K5.out) Tryz.underlying29 rfl HIN.out (hK' _ _ ?_)))
          refine HN.out.mono ?_
          rintro e w6 ⟨rfl, hb6⟩
          have K6 : Hid (Below w.heap.size w w6) := bel_on KY.out hb6
          clear hb6
          go_wp2_with fail
          go_ret
          exact ⟨by simp, bel_on b0.out K6.out⟩
        · have HNM : Hid (∀ P c W, Below w.heap.size w W → IR W P c (natI [0, D]) → Calls Tryz.prog 59 #[.agg s.cs.toArray, .slice P 2 c, .slice none 0 0] W fun e w' => e = .returned (.bool true) ∧ Below W.heap.size W w') := fun P c W hW g1 => by
            have := lawNames_any s P c [0, D] none 0 [] W (h.below hW) hok (mw := 2) (nq := 0) rfl rfl (by rw [hu3]; rfl) hwd g1 ⟨Rd.nil _ _, fun x hx => by cases hx⟩
            rwa [hnm, if_neg hth, show sameI [] [] = true from rfl] at this
          rw [hcm, decide_eq_false hth] at HCP
          obtain ⟨z, hz⟩ : ∃ z, cmpN (divsN D D 1 * val s.y) (val s.x * bin (2 * D) D) = z := ⟨_, rfl⟩
          have hzz : ¬ (z ≤ 0) := by rw [← hz]; exact fun g => hth (v2.1 g)
          rw [hz] at HCM
          generalize (lowS (divsN D D 1) (bin (2 * D) D)) = l1 at *
          obtain ⟨l1a, l1b⟩ := l1
          dsimp only at *
          generalize l1a.length = n1a at *
          generalize l1b.length = n1b at *
          generalize s.x.length = lx at *
          generalize s.y.length = ly at *
          generalize s.cs.toArray = cs at *
          clear hok hW0 h h0 hk q1 q2 q3 q4 v1 v2 hz hcm hnm hth u1 hwd hgt hD hu2
          rw [hu3] at HCL
          clear hu3
          go_enter Tryz.func16, Tryz.ntmps16
          go_wp2_with (rw [← HW0.out])
          refine (alive_any _).mono ?_
          rintro e w1 ⟨rfl, hb1⟩
          have K1 : Hid (Below w.heap.size w w1) := bel_on K0.out hb1
          clear hb1
          go_wp2_with (refine wpList_load_row rfl 29 (.tmp 1) rfl w0.heap.size rfl 29 cs (0, 0) _ (HX.out _ K1.out) Tryz.underlying29 rfl HIN.out ?_)
          refine (HVS.out _ K1.out).mono ?_
          rintro e w2 ⟨rfl, hb2⟩
          have K2 : Hid (Below w.heap.size w w2) := bel_on K1.out hb2
          have c0 := (HCL.out _ K2.out).1
          clear hb2
          go_wp2_with (refine wpList_load_row rfl 29 (.tmp 1) rfl w0.heap.size rfl 29 cs (0, 0) _ (HX.out _ K2.out) Tryz.underlying29 rfl HIN.out ?_)
          clear c0
          refine (HCP.out _ K2.out).mono ?_
          rintro e w3 ⟨rfl, hb3⟩
          have K3 : Hid (Below w.heap.size w w3) := bel_on K2.out hb3
          have c0 := (HCL.out _ K3.out).1
          have c1 := (HCL.out _ K3.out).2.1
          clear hb3
          go_wp2_with fail
          clear c0 c1
          refine (HT.out _).mono ?_
          rintro e w4 ⟨X4, x4, Z4, z4, rfl, gx4, gz4, hb4⟩
          obtain ⟨w4b, hw4⟩ : ∃ W, W = w4.alloc (.cells #[.slice X4 n1a x4, .slice Z4 n1b z4] 27) := ⟨_, rfl⟩
          have d4 : Below w4.heap.size w4 w4b := by rw [hw4]; exact alloc_bel _ _
          have hbb4 := bel_on hb4 d4
          have K4 : Hid (Below w.heap.size w w4b) := bel_on K3.out hbb4
          have T4 : Hid (Blk w4b w4.heap.size 27 #[.slice X4 n1a x4, .slice Z4 n1b z4]) := by unfold Hid; rw [hw4]; exact Blk.new _ _ _
          have GX4 := Lib.hid (gx4.below d4)
          have GZ4 := Lib.hid (gz4.below d4)
          have HW4 := Lib.hid hw4
          clear hw4 d4 hbb4 hb4 gx4 gz4
          have q0 := T4.out.cell 0
          have q1 := T4.out.cell 1
          obtain ⟨c0, c1, c18, c19⟩ := HCL.out _ K4.out
          go_wp2_with (rw [← HW4.out])
          refine (HCM.out _ _ _ _ _ K4.out GX4.out GZ4.out).mono ?_
          rintro e w5 ⟨rfl, hb5⟩
          have K5 : Hid (Below w.heap.size w w5) := bel_on K4.out hb5
          clear hb5 q0 q1 c0 c1 c18 c19
          obtain ⟨wx, hwx⟩ : ∃ W, W = w5.alloc (.cells #[.int .i64 0, .int .i64 (D : Int)] 3) := ⟨_, rfl⟩
          obtain ⟨i1, dx⟩ := ints_lit3 w5 D (by omega) hwx
          have KX : Hid (Below w.heap.size w wx) := bel_on K5.out dx
          have HN : Hid (Calls Tryz.prog 59 #[.agg cs, .slice (some ⟨w5.heap.size, 0, none⟩) 2 2, .slice none 0 0] wx fun e w' => e = .returned (.bool true) ∧ Below wx.heap.size wx w') := HNM.out _ _ _ KX.out i1
          have HWX := Lib.hid hwx
          clear hwx i1 dx
          have c1 := (HCL.out _ K5.out).2.1
          go_wp2_with (first | (rw [← HWX.out]) | (refine BigFrame.wpList_want (by rfl) fun K' hK' => wp_load_row 29 (.tmp 1) rfl w0.heap.size rfl 29 cs (0, 0) _ (HX.out _ K5.out) Tryz.underlying29 rfl HIN.out (hK' _ _ ?_)))
          refine HN.out.mono ?_
          rintro e w6 ⟨rfl, hb6⟩
          have K6 : Hid (Below w.heap.size w w6) := bel_on KX.out hb6
          clear hb6
          go_wp2_with fail
          go_ret
          exact ⟨by simp, bel_on b0.out K6.out⟩
  · have hok2 : s.ok = false := by simpa using hok
    rw [hok2] at HVS
    generalize s.cs.toArray = cs at *
    clear hok hok2 hW0 h h0 hk
    go_enter Tryz.func16, Tryz.ntmps16
    go_wp2_with (rw [← HW0.out])
    refine (alive_any _).mono ?_
    rintro e w1 ⟨rfl, hb1⟩
    have K1 : Hid (Below w.heap.size w w1) := bel_on K0.out hb1
    clear hb1
    go_wp2_with (refine wpList_load_row rfl 29 (.tmp 1) rfl w0.heap.size rfl 29 cs (0, 0) _ (HX.out _ K1.out) Tryz.underlying29 rfl HIN.out ?_)
    refine (HVS.out _ K1.out).mono ?_
    rintro e w2 ⟨rfl, hb2⟩
    have K2 : Hid (Below w.heap.size w w2) := bel_on K1.out hb2
    clear hb2
    go_wp2_with fail
    go_ret
    exact ⟨by simp, bel_on b0.out K2.out⟩
theorem codeEscapes_walk (s : StV) (w : World) (h : StOK w s) :
    Calls Tryz.prog 16 #[.agg s.cs.toArray] w fun e w' => e = .returned (.bool true) ∧ Below w.heap.size w w' := codeEscapes_walk0 s w h
end Go.Proofs.YtenpkmgbaajeeaaGreat
