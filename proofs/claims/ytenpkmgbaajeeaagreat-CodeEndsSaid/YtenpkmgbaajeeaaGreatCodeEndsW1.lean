/-
  Lemmas and contracts, joined.
-/
import Derived.Deep.QuietTactic
import Derived.BigQuiet
import Derived.Test.YtenpkmgbaajeeaaGreatCc1
import Derived.Test.YtenpkmgbaajeeaaGreatCp1
import Derived.Test.YtenpkmgbaajeeaaGreatCa2
import Derived.Test.YtenpkmgbaajeeaaGreatCa1
import Derived.Test.YtenpkmgbaajeeaaGreatCs1
import Derived.Test.YtenpkmgbaajeeaaGreatCt1
set_option linter.unusedSimpArgs false
set_option linter.unusedVariables false
set_option linter.unnecessarySimpa false
/- Whether a code of steps is complete: the reference's, and both for any code. -/
namespace Go.Proofs.YtenpkmgbaajeeaaGreat
open Go.RowKit
set_option linter.unusedVariables false
set_option linter.unusedSimpArgs false

def thL (t : Nat → Int) (n : Nat) : List Int := (List.range n).map t
theorem thL_length (t : Nat → Int) (n : Nat) : (thL t n).length = n := by simp [thL]
theorem thL_succ (t : Nat → Int) (n : Nat) : thL t (n + 1) = thL t n ++ [t n] := by simp [thL, List.range_succ]
theorem thL_it {t : Nat → Int} {n i : Nat} (h : i < n) : it (thL t n) i = t i := by rw [it_in (by rw [thL_length]; exact h)]; simp [thL]
theorem mayS_or {d : Nat} {t : Nat → Int} {j v x : Nat} : (decide (∃ u, u < v ∧ mayS d t j u = true ∧ t (u + x) < (u : Int)) || (mayS d t j v && decide (t (v + x) < (v : Int)))) = decide (∃ u, u < v + 1 ∧ mayS d t j u = true ∧ t (u + x) < (u : Int)) := by
  rw [Bool.eq_iff_iff, Bool.or_eq_true, Bool.and_eq_true, decide_eq_true_eq, decide_eq_true_eq, decide_eq_true_eq]
  constructor
  · rintro (⟨u, h1, h2, h3⟩ | ⟨h1, h2⟩)
    · exact ⟨u, by omega, h2, h3⟩
    · exact ⟨v, by omega, h1, h2⟩
  · rintro ⟨u, h1, h2, h3⟩
    by_cases e : u = v
    · subst e; exact .inr ⟨h2, h3⟩
    · exact .inl ⟨u, by omega, h2, h3⟩
theorem mayS_fin {d : Nat} {t : Nat → Int} {j x : Nat} : decide (∃ u, u < d + 1 ∧ mayS d t j u = true ∧ t (u + x) < (u : Int)) = mayS d t (j + 1) x := by
  rw [mayS, decide_eq_decide]
  constructor
  · rintro ⟨v, hv, h1, h3⟩; exact ⟨v, by omega, h1, h3⟩
  · rintro ⟨v, hv, h1, h3⟩; exact ⟨v, by omega, h1, h3⟩
/-- What the next block may weigh, the first v weights of this one looked at. -/
def nextQ (d : Nat) (t : Nat → Int) (j v x : Nat) : Bool := decide (∃ u, u < v ∧ mayS d t j u = true ∧ t (u + x) < (u : Int))
end Go.Proofs.YtenpkmgbaajeeaaGreat

/- The law CodeTails: the walk. -/
namespace Go.Proofs.YtenpkmgbaajeeaaGreat
open Go.RowKit
set_option linter.unusedVariables false
set_option linter.unusedSimpArgs false

theorem frac2_open_ {W w' : World} {e : Ending} {r : (List Nat × List Nat) × Int} (h : Frac2 W w' e r) : ∃ X x Z z, e = .returned (.tuple #[.agg #[.slice X r.1.1.length x, .slice Z r.1.2.length z], .int .i64 r.2]) ∧ NR w' X x r.1.1 ∧ NR w' Z z r.1.2 ∧ Below W.heap.size W w' := by
  obtain ⟨v, rfl, X, x, Z, z, rfl, h1, h2, _, hb⟩ := h
  exact ⟨X, x, Z, z, rfl, h1.nr_, h2.nr_, hb⟩
set_option maxHeartbeats 8000000 in
set_option maxRecDepth 100000 in
theorem Complete_any (s : StV) (w : World) (h : StOK w s) :
    Calls Tryz.prog 61 #[.agg s.cs.toArray] w fun e w' => e = .returned (.tuple #[.bool (cmpSt s).1, .int .i64 (cmpSt s).2]) ∧ Below w.heap.size w w' := by
  cases hok : s.ok with
  | true =>
    have := complete_good s w h hok
    unfold cmpSt
    rw [hok]
    exact this
  | false =>
    have HCK : Hid (∀ W, Below w.heap.size w W → Calls Tryz.prog 21 #[.agg s.cs.toArray] W fun e w' => e = .returned (.int .i64 (ckSt s.ok)) ∧ Below W.heap.size W w') := fun W hW => CheckSteps_any s W (h.below hW)
    have hks := h.k16
    obtain ⟨W0, hW0⟩ : ∃ W : World, W = w.alloc (.cells s.cs.toArray 29) := ⟨_, rfl⟩
    have b0 : Hid (Below w.heap.size w W0) := by unfold Hid; rw [hW0]; exact alloc_below _ _
    have x0 : Hid (Blk W0 w.heap.size 29 s.cs.toArray) := by unfold Hid; rw [hW0]; exact Blk.new w _ _
    have HW0 := Lib.hid hW0
    have HIN := Lib.hid (StV.info (s := s) hks)
    have HS : Hid (cmpSt s = (false, 70)) := by unfold Hid cmpSt; rw [hok]; rfl
    rw [hok] at HCK
    rw [HS.out]
    generalize s.cs.toArray = cs at *
    clear hW0 h hks hok
    go_enter Tryz.func61, Tryz.ntmps61
    go_wp2_with (first
      | (rw [← HW0.out])
      | (refine wpList_load_row rfl 29 (.tmp 1) rfl (w.heap.size) rfl 29 cs (0, 0) _ x0.out Tryz.underlying29 rfl HIN.out ?_)
      | (go_at_call 21; (with_reducible refine (HCK.out _ b0.out).mono ?_); rintro e w1 ⟨rfl, hb⟩; have D1 := Lib.hid (bel_on b0.out hb); clear hb; simp only [ckSt]))
    go_ret2
    exact ⟨rfl, D1.out⟩
end Go.Proofs.YtenpkmgbaajeeaaGreat

/- The law CodeThreshold: the walk. -/
namespace Go.Proofs.YtenpkmgbaajeeaaGreat
open Go.RowKit
set_option linter.unusedVariables false
set_option linter.unusedSimpArgs false

theorem bin_sm {d : Nat} (h : d ≤ 64) : Sm (bin (2 * d) d) := sm_bin (by omega)
theorem bin_ne (d : Nat) : bin (2 * d) d ≠ 0 := by have := bin_pos (a := 2 * d) (b := d) (by omega); omega
theorem divs_sm {d k X : Nat} (hd : d ≤ 64) (hk : k ≤ 2 * d) (hX : X ≤ k + 1) : Sm (divsN d k X) := (bin_sm hd).mono (by have := divsN_sym hk hX; omega)
/-- The tail of the threshold is at most the limit, and that of the next number is above it. -/
theorem thr_tails {s : StV} (hok : s.ok = true) {d K : Nat} (hd : s.b = (d : Int)) (hK : K ≤ 2 * d) : ∃ X : Nat, s.th K + 1 = (X : Int) ∧ X + 1 ≤ K + 1 ∧ -1 ≤ s.th K ∧ s.th K < K ∧
    cmpFS (lowS (divsN d K X) (bin (2 * d) d)).1 (lowS (divsN d K X) (bin (2 * d) d)).2 s.x s.y = (cmpN (divsN d K X * val s.y) (val s.x * bin (2 * d) d), 0) ∧ cmpN (divsN d K X * val s.y) (val s.x * bin (2 * d) d) ≤ 0 ∧
    cmpFS (lowS (divsN d K (X + 1)) (bin (2 * d) d)).1 (lowS (divsN d K (X + 1)) (bin (2 * d) d)).2 s.x s.y = (cmpN (divsN d K (X + 1) * val s.y) (val s.x * bin (2 * d) d), 0) ∧ 0 < cmpN (divsN d K (X + 1) * val s.y) (val s.x * bin (2 * d) d) := by
  obtain ⟨⟨q1, q2, q3, q4⟩, hl⟩ := StV.parts hok
  obtain ⟨hv, h2, h3, h4⟩ := limB_iff.1 hl
  have e : s.th K = thS d K (val s.x) (val s.y) := by unfold StV.th; rw [hd, Int.toNat_natCast]
  have h5 := thS_ge d K (val s.x) (val s.y)
  have h6 := thS_lt hK h4
  have h7 := thS_over h6
  rw [e]
  obtain ⟨X, hX⟩ : ∃ X : Nat, thS d K (val s.x) (val s.y) + 1 = (X : Int) := ⟨(thS d K (val s.x) (val s.y) + 1).toNat, by omega⟩
  rw [show (thS d K (val s.x) (val s.y) + 2).toNat = X + 1 from by omega] at h7
  refine ⟨X, hX, by omega, h5, h6, low_cmp (bin_ne d) (divs_sm (by omega) hK (by omega)) (bin_sm (by omega)) hv, cmpN_le0.2 ?_, low_cmp (bin_ne d) (divs_sm (by omega) hK (by omega)) (bin_sm (by omega)) hv, cmpN_gt0.2 h7⟩
  cases X with
  | zero => simp [divsN, sumN]
  | succ X => exact thS_under (by omega)
set_option maxHeartbeats 8000000 in
set_option maxRecDepth 100000 in
theorem codeThreshold_walk0 (s : StV) (k : Int) (w0 : World) (h0 : StOK w0 s) (hk1 : -9223372036854775808 ≤ k) (hk2 : k ≤ 9223372036854775807) :
    Calls Tryz.prog 10 #[.agg s.cs.toArray, .int .i64 k] w0 fun e w' => e = .returned (.bool true) ∧ Below w0.heap.size w0 w' := by
  have hk := h0.k16
  obtain ⟨w, hW0⟩ : ∃ W : World, W = w0.alloc (.cells s.cs.toArray 29) := ⟨_, rfl⟩
  have b0 : Hid (Below w0.heap.size w0 w) := by unfold Hid; rw [hW0]; exact alloc_bel _ _
  have x0 : Hid (Blk w w0.heap.size 29 s.cs.toArray) := by unfold Hid; rw [hW0]; exact Blk.new w0 _ _
  have h := h0.below b0.out
  have HW0 := Lib.hid hW0
  have HIN := Lib.hid (StV.info (s := s) hk)
  have K0 : Hid (Below w.heap.size w w) := Below.refl _ _
  have HX : Hid (∀ W, Below w.heap.size w W → Blk W w0.heap.size 29 s.cs.toArray) := fun W hW => x0.out.below' hW
  have HTH : Hid (∀ W, Below w.heap.size w W → Calls Tryz.prog 50 #[.agg s.cs.toArray, .int .i64 k] W fun e w' => e = .returned (.tuple #[.int .i64 (thrS s k).1, .int .i64 (thrS s k).2]) ∧ Below W.heap.size W w') := fun W hW => Threshold_any s k W (h.below hW)
  have HVS : Hid (∀ W, Below w.heap.size w W → Calls Tryz.prog 43 #[.agg s.cs.toArray] W fun e w' => e = .returned (.bool s.ok) ∧ Below W.heap.size W w') := fun W hW => refValidSteps_any s W (h.below hW)
  by_cases hok : s.ok = true
  · obtain ⟨⟨q1, q2, q3, q4⟩, -⟩ := StV.parts hok
    obtain ⟨D, hD⟩ : ∃ D : Nat, s.b = (D : Int) := ⟨s.b.toNat, by omega⟩
    have HCL : Hid (∀ W, Below w.heap.size w W → W.cell? ⟨w0.heap.size, 0, none⟩ = some (.int .i64 s.u) ∧ W.cell? ⟨w0.heap.size, 1, none⟩ = some (.int .i64 (D : Int)) ∧ W.cell? ⟨w0.heap.size, 18, none⟩ = some (.slice s.A s.x.length s.ca) ∧ W.cell? ⟨w0.heap.size, 19, none⟩ = some (.slice s.Bd s.y.length s.cb)) := fun W hW => by
      have := StV.cells hk (x0.out.below' hW)
      rw [hD] at this
      exact this
    by_cases hr : k < 0 ∨ 2 * s.b < k
    · have e1 : thrS s k = (0, 2) := by unfold thrS; rw [if_pos hok, if_pos hr]
      rw [e1] at HTH
      rw [hok] at HVS
      rw [hD] at hr
      have hD64 : (D : Int) ≤ 64 := by omega
      generalize s.cs.toArray = cs at *
      clear hok hW0 h h0 hk q1 q2 q3 q4
      go_enter Tryz.func10, Tryz.ntmps10
      go_wp2_with (rw [← HW0.out])
      refine (alive_any _).mono ?_
      rintro e w1 ⟨rfl, hb1⟩
      have K1 : Hid (Below w.heap.size w w1) := hb1
      have X1 := Lib.hid (HX.out _ K1.out)
      clear hb1
      go_wp2_with (refine wpList_load_row rfl 29 (.tmp 2) rfl w0.heap.size rfl 29 cs (0, 0) _ X1.out Tryz.underlying29 rfl HIN.out ?_)
      refine (HTH.out _ K1.out).mono ?_
      rintro e w2 ⟨rfl, hb2⟩
      have K2 : Hid (Below w.heap.size w w2) := bel_on K1.out hb2
      have X2 := Lib.hid (HX.out _ K2.out)
      clear hb2
      go_wp2_with (refine wpList_load_row rfl 29 (.tmp 2) rfl w0.heap.size rfl 29 cs (0, 0) _ X2.out Tryz.underlying29 rfl HIN.out ?_)
      refine (HVS.out _ K2.out).mono ?_
      rintro e w3 ⟨rfl, hb3⟩
      have K3 : Hid (Below w.heap.size w w3) := bel_on K2.out hb3
      obtain ⟨-, c1, -, -⟩ := HCL.out _ K3.out
      clear hb3
      by_cases hk0 : k < 0
      · go_wp2_with fail
        go_ret
        exact ⟨by simp, bel_on b0.out K3.out⟩
      · have hk3 : 2 * (D : Int) < k := by omega
        go_wp2_with fail
        go_ret
        exact ⟨by simp, bel_on b0.out K3.out⟩
    · obtain ⟨K, rfl⟩ : ∃ K : Nat, k = (K : Int) := ⟨k.toNat, by omega⟩
      have e1 : thrS s K = (s.th K, 0) := by unfold thrS; rw [if_pos hok, if_neg hr, Int.toNat_natCast]
      obtain ⟨X, hX, hXK, t1, t2, r1, r2, r3, r4⟩ := thr_tails hok hD (show K ≤ 2 * D by omega)
      have u1 := tailS_yes hX (show 1 ≤ D by omega) (by omega) (show K ≤ 2 * D by omega) (show X ≤ K + 1 by omega)
      have u2 := tailS_yes (show s.th K + 1 + 1 = ((X + 1 : Nat) : Int) by omega) (show 1 ≤ D by omega) (by omega) (show K ≤ 2 * D by omega) hXK
      rw [e1] at HTH
      rw [hok] at HVS
      have HCM1 : Hid (∀ W A a B b, Below w.heap.size w W → NR W A a (lowS (divsN D K X) (bin (2 * D) D)).1 → NR W B b (lowS (divsN D K X) (bin (2 * D) D)).2 → Calls Tryz.prog 54 #[.agg #[.slice A (lowS (divsN D K X) (bin (2 * D) D)).1.length a, .slice B (lowS (divsN D K X) (bin (2 * D) D)).2.length b], .agg #[.slice s.A s.x.length s.ca, .slice s.Bd s.y.length s.cb]] W fun e w' => e = .returned (.tuple #[.int .i64 (cmpN (divsN D K X * val s.y) (val s.x * bin (2 * D) D)), .int .i64 0]) ∧ Below W.heap.size W w') := fun W A a B b hW g1 g2 => (CompareFractions_any A a _ B b _ s.A s.ca s.x s.Bd s.cb s.y W rfl rfl rfl rfl g1 g2 (h.hx.below hW) (h.hy.below hW)).mono fun e w' hq => by
        rw [r1] at hq
        exact hq
      have HCM2 : Hid (∀ W A a B b, Below w.heap.size w W → NR W A a (lowS (divsN D K (X + 1)) (bin (2 * D) D)).1 → NR W B b (lowS (divsN D K (X + 1)) (bin (2 * D) D)).2 → Calls Tryz.prog 54 #[.agg #[.slice A (lowS (divsN D K (X + 1)) (bin (2 * D) D)).1.length a, .slice B (lowS (divsN D K (X + 1)) (bin (2 * D) D)).2.length b], .agg #[.slice s.A s.x.length s.ca, .slice s.Bd s.y.length s.cb]] W fun e w' => e = .returned (.tuple #[.int .i64 (cmpN (divsN D K (X + 1) * val s.y) (val s.x * bin (2 * D) D)), .int .i64 0]) ∧ Below W.heap.size W w') := fun W A a B b hW g1 g2 => (CompareFractions_any A a _ B b _ s.A s.ca s.x s.Bd s.cb s.y W rfl rfl rfl rfl g1 g2 (h.hx.below hW) (h.hy.below hW)).mono fun e w' hq => by
        rw [r3] at hq
        exact hq
      obtain ⟨z1, hz1⟩ : ∃ z, cmpN (divsN D K X * val s.y) (val s.x * bin (2 * D) D) = z := ⟨_, rfl⟩
      obtain ⟨z2, hz2⟩ : ∃ z, cmpN (divsN D K (X + 1) * val s.y) (val s.x * bin (2 * D) D) = z := ⟨_, rfl⟩
      rw [hz1] at HCM1 r2
      rw [hz2] at HCM2 r4
      obtain ⟨th, hth⟩ : ∃ q, s.th K = q := ⟨_, rfl⟩
      rw [hth] at HTH t1 t2 u1 u2
      have HT1 : Hid (∀ W, Calls Tryz.prog 55 #[.int .i64 (D : Int), .int .i64 (K : Int), .int .i64 th] W fun e w' => ∃ X x' Z z, e = .returned (.tuple #[.agg #[.slice X (tailS (D : Int) (K : Int) th).1.1.length x', .slice Z (tailS (D : Int) (K : Int) th).1.2.length z], .int .i64 (tailS (D : Int) (K : Int) th).2]) ∧ NR w' X x' (tailS (D : Int) (K : Int) th).1.1 ∧ NR w' Z z (tailS (D : Int) (K : Int) th).1.2 ∧ Below W.heap.size W w') := fun W => (Tail_any (D : Int) (K : Int) th W).mono fun e w' h => frac2_open_ h
      have HT2 : Hid (∀ W, Calls Tryz.prog 55 #[.int .i64 (D : Int), .int .i64 (K : Int), .int .i64 (th + 1)] W fun e w' => ∃ X x' Z z, e = .returned (.tuple #[.agg #[.slice X (tailS (D : Int) (K : Int) (th + 1)).1.1.length x', .slice Z (tailS (D : Int) (K : Int) (th + 1)).1.2.length z], .int .i64 (tailS (D : Int) (K : Int) (th + 1)).2]) ∧ NR w' X x' (tailS (D : Int) (K : Int) (th + 1)).1.1 ∧ NR w' Z z (tailS (D : Int) (K : Int) (th + 1)).1.2 ∧ Below W.heap.size W w') := fun W => (Tail_any (D : Int) (K : Int) (th + 1) W).mono fun e w' h => frac2_open_ h
      rw [u1] at HT1
      rw [u2] at HT2
      dsimp only at HT1 HT2
      have g1 : ¬ ((K : Int) < 0) := by omega
      have g2 : ¬ (2 * (D : Int) < (K : Int)) := by omega
      have g3 : (D : Int) ≤ 64 := by omega
      have g4 : (K : Int) ≤ 128 := by omega
      have g5 : th ≤ 128 := by omega
      generalize (lowS (divsN D K X) (bin (2 * D) D)) = l1 at *
      generalize (lowS (divsN D K (X + 1)) (bin (2 * D) D)) = l2 at *
      obtain ⟨l1a, l1b⟩ := l1
      obtain ⟨l2a, l2b⟩ := l2
      dsimp only at *
      generalize l1a.length = n1a at *
      generalize l1b.length = n1b at *
      generalize l2a.length = n2a at *
      generalize l2b.length = n2b at *
      generalize s.x.length = lx at *
      generalize s.y.length = ly at *
      generalize s.cs.toArray = cs at *
      clear hok hW0 h h0 hk q1 q2 q3 q4 hr hX hXK r1 r3 u1 u2 hz1 hz2 hth e1
      go_enter Tryz.func10, Tryz.ntmps10
      go_wp2_with (rw [← HW0.out])
      refine (alive_any _).mono ?_
      rintro e w1 ⟨rfl, hb1⟩
      have K1 : Hid (Below w.heap.size w w1) := hb1
      have X1 := Lib.hid (HX.out _ K1.out)
      clear hb1
      go_wp2_with (refine wpList_load_row rfl 29 (.tmp 2) rfl w0.heap.size rfl 29 cs (0, 0) _ X1.out Tryz.underlying29 rfl HIN.out ?_)
      refine (HTH.out _ K1.out).mono ?_
      rintro e w2 ⟨rfl, hb2⟩
      have K2' : Hid (Below w.heap.size w w2) := bel_on K1.out hb2
      have X2 := Lib.hid (HX.out _ K2'.out)
      clear hb2
      go_wp2_with (refine wpList_load_row rfl 29 (.tmp 2) rfl w0.heap.size rfl 29 cs (0, 0) _ X2.out Tryz.underlying29 rfl HIN.out ?_)
      refine (HVS.out _ K2'.out).mono ?_
      rintro e w2b ⟨rfl, hb2⟩
      have K2 : Hid (Below w.heap.size w w2b) := bel_on K2'.out hb2
      obtain ⟨-, c1, -, -⟩ := HCL.out _ K2.out
      clear hb2
      go_wp2_with fail
      clear c1
      refine (HT1.out _).mono ?_
      rintro e w3 ⟨X3, x3, Z3, z3, rfl, gx3, gz3, hb3⟩
      obtain ⟨w3b, hw3⟩ : ∃ W, W = w3.alloc (.cells #[.slice X3 n1a x3, .slice Z3 n1b z3] 27) := ⟨_, rfl⟩
      have d3 : Below w3.heap.size w3 w3b := by rw [hw3]; exact alloc_bel _ _
      have hbb3 := bel_on hb3 d3
      have K3 : Hid (Below w.heap.size w w3b) := bel_on K2.out hbb3
      have T3 : Hid (Blk w3b w3.heap.size 27 #[.slice X3 n1a x3, .slice Z3 n1b z3]) := by unfold Hid; rw [hw3]; exact Blk.new _ _ _
      have GX3 := Lib.hid (gx3.below d3)
      have GZ3 := Lib.hid (gz3.below d3)
      have HW3 := Lib.hid hw3
      clear hw3 d3 hbb3 hb3 gx3 gz3
      have q0 := T3.out.cell 0
      have q1 := T3.out.cell 1
      obtain ⟨c0, c1, c18, c19⟩ := HCL.out _ K3.out
      go_wp2_with (rw [← HW3.out])
      refine (HCM1.out _ _ _ _ _ K3.out GX3.out GZ3.out).mono ?_
      rintro e w4 ⟨rfl, hb4⟩
      have K4 : Hid (Below w.heap.size w w4) := bel_on K3.out hb4
      clear hb4 q0 q1 c0 c1 c18 c19
      obtain ⟨-, c1, -, -⟩ := HCL.out _ K4.out
      go_wp2_with fail
      clear c1
      refine (HT2.out _).mono ?_
      rintro e w5 ⟨X5, x5, Z5, z5, rfl, gx5, gz5, hb5⟩
      obtain ⟨w5b, hw5⟩ : ∃ W, W = w5.alloc (.cells #[.slice X5 n2a x5, .slice Z5 n2b z5] 27) := ⟨_, rfl⟩
      have d5 : Below w5.heap.size w5 w5b := by rw [hw5]; exact alloc_bel _ _
      have hbb5 := bel_on hb5 d5
      have K5 : Hid (Below w.heap.size w w5b) := bel_on K4.out hbb5
      have T5 : Hid (Blk w5b w5.heap.size 27 #[.slice X5 n2a x5, .slice Z5 n2b z5]) := by unfold Hid; rw [hw5]; exact Blk.new _ _ _
      have GX5 := Lib.hid (gx5.below d5)
      have GZ5 := Lib.hid (gz5.below d5)
      have HW5 := Lib.hid hw5
      clear hw5 d5 hbb5 hb5 gx5 gz5
      have q0 := T5.out.cell 0
      have q1 := T5.out.cell 1
      obtain ⟨c0, c1, c18, c19⟩ := HCL.out _ K5.out
      go_wp2_with (rw [← HW5.out])
      refine (HCM2.out _ _ _ _ _ K5.out GX5.out GZ5.out).mono ?_
      rintro e w6 ⟨rfl, hb6⟩
      have K6 : Hid (Below w.heap.size w w6) := bel_on K5.out hb6
      clear hb6 q0 q1 c0 c1 c18 c19
      go_wp2_with fail
      go_ret
      exact ⟨by simp, bel_on b0.out K6.out⟩
  · have hok2 : s.ok = false := by simpa using hok
    have e1 : thrS s k = (0, 70) := by unfold thrS; rw [if_neg hok]
    rw [e1] at HTH
    rw [hok2] at HVS
    generalize s.cs.toArray = cs at *
    clear hok hok2 hW0 h h0 hk
    go_enter Tryz.func10, Tryz.ntmps10
    go_wp2_with (rw [← HW0.out])
    refine (alive_any _).mono ?_
    rintro e w1 ⟨rfl, hb1⟩
    have K1 : Hid (Below w.heap.size w w1) := hb1
    have X1 := Lib.hid (HX.out _ K1.out)
    clear hb1
    go_wp2_with (refine wpList_load_row rfl 29 (.tmp 2) rfl w0.heap.size rfl 29 cs (0, 0) _ X1.out Tryz.underlying29 rfl HIN.out ?_)
    refine (HTH.out _ K1.out).mono ?_
    rintro e w2 ⟨rfl, hb2⟩
    have K2 : Hid (Below w.heap.size w w2) := bel_on K1.out hb2
    have X2 := Lib.hid (HX.out _ K2.out)
    clear hb2
    go_wp2_with (refine wpList_load_row rfl 29 (.tmp 2) rfl w0.heap.size rfl 29 cs (0, 0) _ X2.out Tryz.underlying29 rfl HIN.out ?_)
    refine (HVS.out _ K2.out).mono ?_
    rintro e w3 ⟨rfl, hb3⟩
    have K3 : Hid (Below w.heap.size w w3) := bel_on K2.out hb3
    clear hb3
    go_wp2_with fail
    go_ret
    exact ⟨by simp, bel_on b0.out K3.out⟩
theorem codeThreshold_walk (s : StV) (k : Int) (w : World) (h : StOK w s) (h1 : -9223372036854775808 ≤ k) (h2 : k ≤ 9223372036854775807) :
    Calls Tryz.prog 10 #[.agg s.cs.toArray, .int .i64 k] w fun e w' => e = .returned (.bool true) ∧ Below w.heap.size w w' := codeThreshold_walk0 s k w h h1 h2
end Go.Proofs.YtenpkmgbaajeeaaGreat

/- A lone pirate, in plain words. -/
namespace Go.Proofs.YtenpkmgbaajeeaaGreat
open Go.RowKit
set_option linter.unusedVariables false
set_option linter.unusedSimpArgs false

theorem it_nat (l : List Nat) (i : Nat) : it (natI l) i = ((l.getD i 0 : Nat) : Int) := by
  unfold it natI
  rw [List.getD_eq_getElem?_getD, List.getD_eq_getElem?_getD, List.getElem?_map]
  cases l[i]? <;> rfl
theorem StV.word_bit (s : StV) (x i : Nat) : bt (s.word x) i ≤ 1 := wordF_bit _ _ _ _ _
theorem StV.word_cp (s : StV) (x : Nat) : copyB (s.word x) s.n = true := by
  unfold copyB
  rw [Bool.and_eq_true, decide_eq_true_eq]
  exact ⟨s.word_len x, symB_iff.2 fun i _ => Nat.le_trans (s.word_bit x i) (by omega)⟩
theorem ones_step (l : List UInt8) (i : Nat) (h : bt l i ≤ 1) : onesB l (i + 1) = onesB l i + bt l i := by
  unfold onesB
  rw [sumN_succ]
  congr 1
  unfold bt at h ⊢
  by_cases e : l.getD i 0 = 1
  · rw [if_pos e, e]; rfl
  · rw [if_neg e]
    have h2 : (l.getD i 0).toNat ≠ 1 := fun g => e (UInt8.toNat_inj.1 g)
    omega
theorem ones_le (l : List UInt8) : ∀ i, onesB l i ≤ i
  | 0 => Nat.le_refl _
  | i + 1 => by
    have := ones_le l i
    unfold onesB at this ⊢
    rw [sumN_succ]
    split <;> omega
theorem namesF_none {P : Nat → Bool} : ∀ {n : Nat}, (∀ x, x < n → P x = false) → namesF P n = []
  | 0, _ => rfl
  | n + 1, h => by rw [namesF_no (h n (by omega)), namesF_none fun x hx => h x (by omega)]
theorem namesF_one {P : Nat → Bool} {u : Nat} (h1 : P u = true) : ∀ {n : Nat}, u < n → (∀ x, x < n → x ≠ u → P x = false) → namesF P n = [(u : Int)]
  | 0, h, _ => absurd h (by omega)
  | n + 1, h, h2 => by
    by_cases e : n = u
    · subst e
      rw [namesF_yes h1, namesF_none fun x hx => h2 x (by omega) (by omega)]; rfl
    · rw [namesF_no (h2 n (by omega) e)]
      exact namesF_one h1 (by omega) fun x hx => h2 x (by omega)
theorem lone_ones {s : StV} (hok : s.ok = true) {d m : Nat} (hd : s.b = (d : Int)) (hn : s.n = m * d) (x : Nat) : onesB (s.word x) s.n = m * d - x * d := by
  obtain ⟨hn1, hn2, -⟩ := StV.n_le hok
  unfold StV.word
  rw [stepWord_ones (s.arr (by omega)) (arrS_perm fun i hi => s.num_le (by omega)), hd, Int.toNat_natCast, hn]
theorem lone_wts {s : StV} (hok : s.ok = true) {d m : Nat} (hd : s.b = (d : Int)) (hu : s.u = ((m + 1 : Nat) : Int)) (hn : s.n = m * d) (h1 : 1 ≤ d) (x : Nat) {b : Nat} (hb : b < m) : (s.wts (s.word x)).getD b 0 = if x ≤ b then d else 0 := by
  obtain ⟨hn1, hn2, -⟩ := StV.n_le hok
  have ha : ArrL s.at_ (m * d) := by rw [← hn]; exact s.arr (by omega)
  unfold StV.wts StV.word
  rw [hd, hu, Int.toNat_natCast, Int.toNat_natCast, Nat.add_sub_cancel, hn]
  exact word_weights ha (by omega) hb
theorem full_low {s : StV} (hok : s.ok = true) {d : Nat} (hd : s.b = (d : Int)) : s.th (2 * d) < d := by
  obtain ⟨⟨q1, q2, q3, q4⟩, hl⟩ := StV.parts hok
  obtain ⟨hv, h2, h3, h4⟩ := limB_iff.1 hl
  obtain ⟨X, hX, hX2, t1, t2, -, r2, -, -⟩ := thr_tails hok hd (show 2 * d ≤ 2 * d from Nat.le_refl _)
  apply Classical.byContradiction
  intro hno
  have hXd : d + 1 ≤ X := by omega
  have h5 : bin (2 * d) d ≤ divsN d (2 * d) X := by
    refine Nat.le_trans ?_ (sumN_mono _ hXd)
    rw [sumN_succ]
    have e : pick (2 * d) (2 * d - 2 * d) d d = bin (2 * d) d := by unfold pick; rw [if_pos (Nat.le_refl _), Nat.sub_self, Nat.sub_self, bin_zero, Nat.mul_one]
    rw [e]
    exact Nat.le_add_left _ _
  have h6 := cmpN_le0.1 r2
  have h7 : 0 < bin (2 * d) d := by have := bin_ne d; omega
  have h8 : bin (2 * d) d * val s.y ≤ val s.x * bin (2 * d) d := Nat.le_trans (Nat.mul_le_mul_right _ h5) h6
  rw [Nat.mul_comm (val s.x)] at h8
  have := Nat.le_of_mul_le_mul_left h8 h7
  omega
theorem lone_names {s : StV} (hok : s.ok = true) {d m : Nat} (hd : s.b = (d : Int)) (hu : s.u = ((m + 1 : Nat) : Int)) (hn : s.n = m * d) (h1 : 1 ≤ d) (hm : 1 ≤ m) {x : Nat} (hx : x ≤ m) (hth : 0 ≤ s.th d) : s.nms (s.word x) = [(x : Int)] := by
  obtain ⟨⟨q1, q2, q3, q4⟩, hl⟩ := StV.parts hok
  obtain ⟨hv, h2, h3, h4⟩ := limB_iff.1 hl
  have hw : ∀ b, b < m → (s.wts (s.word x)).getD b 0 = if x ≤ b then d else 0 := fun b hb => lone_wts hok hd hu hn h1 x hb
  have hfull := full_low hok hd
  have hzero : s.th 0 < 0 := by
    unfold StV.th
    exact thS_lt (by omega) h4
  unfold StV.th at hfull hzero hth
  rw [hd, Int.toNat_natCast] at hfull hzero hth
  unfold StV.nms StV.nmsW namesS
  rw [hu, hd, Int.toNat_natCast, Int.toNat_natCast]
  generalize s.wts (s.word x) = w at *
  have hP : ∀ y, y < m + 1 → namedB (m + 1) d (val s.x) (val s.y) w y = decide (y = x) := fun y hy => by
    unfold namedB
    by_cases e0 : y = 0
    · subst e0
      rw [if_pos rfl, hw 0 (by omega)]
      by_cases e : x = 0
      · subst e; simp; omega
      · rw [if_neg (by omega)]; simp; omega
    · rw [if_neg e0]
      by_cases e1 : y + 1 = m + 1
      · rw [if_pos e1, hw (y - 1) (by omega)]
        by_cases e : x ≤ y - 1
        · rw [if_pos e]; simp; omega
        · rw [if_neg e]; simp; omega
      · rw [if_neg e1, hw (y - 1) (by omega), hw y (by omega)]
        by_cases e : x ≤ y - 1
        · rw [if_pos e, if_pos (by omega), show d + d = 2 * d by omega, decide_eq_false (by omega), decide_eq_false (by omega)]
        · rw [if_neg e]
          by_cases e2 : x ≤ y
          · rw [if_pos e2, Nat.zero_add, decide_eq_true (by omega), decide_eq_true (by omega)]
          · rw [if_neg e2, Nat.zero_add, decide_eq_false (by omega), decide_eq_false (by omega)]
  exact namesF_one (by rw [hP x (by omega)]; simp) (by omega) fun y hy hne => by rw [hP y hy]; simp [hne]
end Go.Proofs.YtenpkmgbaajeeaaGreat

/- Copies brought to what a coalition's words have in common: in plain words. -/
namespace Go.Proofs.YtenpkmgbaajeeaaGreat
open Go.RowKit
set_option linter.unusedVariables false
set_option linter.unusedSimpArgs false

/-- Whether the first k words agree at a place with the first of them. -/
def agreeK (ws : List (List UInt8)) (i : Nat) : Nat → Bool
  | 0 => true
  | k + 1 => agreeK ws i k && decide (bt (ws.getD k []) i = bt (hd ws) i)
theorem agreeK_iff {ws : List (List UInt8)} {i : Nat} : ∀ {k : Nat}, agreeK ws i k = true ↔ ∀ j, j < k → bt (ws.getD j []) i = bt (hd ws) i
  | 0 => by simp [agreeK]
  | k + 1 => by
    rw [agreeK, Bool.and_eq_true, agreeK_iff, decide_eq_true_eq]
    constructor
    · rintro ⟨h1, h2⟩ j hj
      by_cases e : j = k
      · subst e; exact h2
      · exact h1 j (by omega)
    · exact fun h => ⟨fun j hj => h j (by omega), h k (by omega)⟩
/-- The copy, below i, brought to what the words have in common. -/
def bring (ws : List (List UInt8)) (y : List UInt8) (n i : Nat) : List UInt8 := (List.range n).map fun j => if j < i ∧ agreeK ws j ws.length = true then (hd ws).getD j 0 else y.getD j 0
theorem bring_len (ws : List (List UInt8)) (y : List UInt8) (n i : Nat) : (bring ws y n i).length = n := by simp [bring]
theorem bring_zero (ws : List (List UInt8)) {y : List UInt8} {n : Nat} (h : y.length = n) : bring ws y n 0 = y := by
  refine List.ext_getElem (by simp [bring, h]) fun j h1 h2 => ?_
  simp [bring, List.getD_eq_getElem?_getD, List.getElem?_eq_getElem h2]
theorem bring_get (ws : List (List UInt8)) (y : List UInt8) (n i j : Nat) (hj : j < n) : (bring ws y n i).getD j 0 = if j < i ∧ agreeK ws j ws.length = true then (hd ws).getD j 0 else y.getD j 0 := by
  unfold bring
  rw [List.getD_eq_getElem?_getD, List.getElem?_map, List.getElem?_range hj]
  rfl
theorem bring_set {ws : List (List UInt8)} (y : List UInt8) (n i : Nat) (hi : i < n) (h2 : agreeK ws i ws.length = true) : (bring ws y n i).set i ((hd ws).getD i 0) = bring ws y n (i + 1) := by
  refine List.ext_getElem (by simp [bring]) fun j h1 h2' => ?_
  simp only [bring, List.getElem_set, List.getElem_map, List.getElem_range]
  by_cases e : i = j
  · subst e; simp [h2]
  · rw [if_neg e]
    have : (j < i) ↔ (j < i + 1) := by omega
    simp [this]
theorem bring_keep {ws : List (List UInt8)} (y : List UInt8) (n i : Nat) (h2 : agreeK ws i ws.length = false) : bring ws y n i = bring ws y n (i + 1) := by
  refine List.map_congr_left fun j _ => ?_
  by_cases e : j = i
  · subst e; simp [h2]
  · have : (j < i) ↔ (j < i + 1) := by omega
    simp [this]
theorem hd_bit {ws : List (List UInt8)} (h : okWords ws = true) (i : Nat) (hi : i < (hd ws).length) : bt (hd ws) i ≤ 1 := by
  obtain ⟨h1, h2, h3, h4⟩ := okWords_parts h
  have := h4 0 (by omega)
  simp only [wordB, Bool.and_eq_true, decide_eq_true_eq] at this
  exact symB_iff.1 this.2 i hi
theorem bring_copy {ws : List (List UInt8)} {y : List UInt8} {n : Nat} (h : okWords ws = true) (hn : (hd ws).length = n) (hy : copyB y n = true) (k : Nat) : copyB (bring ws y n k) n = true := by
  obtain ⟨hyn, hcy⟩ := copyB_sym hy
  unfold copyB
  rw [Bool.and_eq_true, decide_eq_true_eq]
  refine ⟨bring_len _ _ _ _, symB_iff.2 fun i hi => ?_⟩
  rw [bring_len] at hi
  unfold bt
  rw [bring_get _ _ _ _ _ hi]
  split
  · exact Nat.le_trans (hd_bit h i (by omega)) (by omega)
  · exact hcy i hi
theorem bring_feas {ws : List (List UInt8)} {y : List UInt8} {n : Nat} (h : okWords ws = true) (hn : (hd ws).length = n) (hy : copyB y n = true) : feasS ws (bring ws y n n) = (true, 0) := by
  rw [feasS_yes h (by rw [hn]; exact bring_copy h hn hy n)]
  rw [isFeas_yes fun k hk => ?_]
  rw [bring_len] at hk
  cases ha : agreeK ws k ws.length
  · refine .inr ?_
    apply Classical.byContradiction
    intro hno
    have : agreeK ws k ws.length = true := agreeK_iff.2 fun j hj => by
      apply Classical.byContradiction
      intro hne
      exact hno (anyI_iff.2 ⟨j, hj, by simpa using hne⟩)
    rw [ha] at this
    cases this
  · refine .inl ?_
    unfold bt
    rw [bring_get _ _ _ _ _ hk, if_pos ⟨hk, ha⟩]
/-- The words of users. -/
def StV.wrds (s : StV) (xs : List Nat) : List (List UInt8) := xs.map s.word
theorem StV.wrds_len (s : StV) (xs : List Nat) : (s.wrds xs).length = xs.length := by simp [StV.wrds]
theorem StV.wrds_get (s : StV) {xs : List Nat} {j : Nat} (h : j < xs.length) : (s.wrds xs).getD j [] = s.word xs[j] := by
  simp [StV.wrds, List.getD_eq_getElem?_getD, List.getElem?_eq_getElem h]
theorem StV.wrds_hd (s : StV) {xs : List Nat} (h : 0 < xs.length) : hd (s.wrds xs) = s.word xs[0] := s.wrds_get h
theorem StV.word_wd (s : StV) (x : Nat) : wordB (s.word x) s.n = true := by
  unfold wordB
  rw [Bool.and_eq_true, decide_eq_true_eq]
  exact ⟨s.word_len x, symB_iff.2 fun i _ => s.word_bit x i⟩
theorem StV.wrds_ok {s : StV} (hok : s.ok = true) {xs : List Nat} (h : 0 < xs.length) (h2 : xs.length ≤ 64) : okWords (s.wrds xs) = true ∧ (hd (s.wrds xs)).length = s.n := by
  obtain ⟨n1, n2, -⟩ := StV.n_le hok
  have e : (hd (s.wrds xs)).length = s.n := by rw [s.wrds_hd h, s.word_len]
  refine ⟨?_, e⟩
  simp only [okWords, Bool.and_eq_true, decide_eq_true_eq, Bool.not_eq_true', e, s.wrds_len]
  refine ⟨h, h2, by omega, ?_⟩
  cases ha : anyI xs.length (fun i => !wordB ((s.wrds xs).getD i []) s.n)
  · rfl
  · obtain ⟨i, hi, hp⟩ := anyI_iff.1 ha
    rw [s.wrds_get hi, s.word_wd] at hp
    cases hp
/-- A column in which all words of the coalition have one symbol. -/
theorem bring_col {s : StV} (hok : s.ok = true) {d : Nat} (hd_ : s.b = (d : Int)) {xs : List Nat} (hne : 0 < xs.length) (y : List UInt8) {j : Nat} (hj : j < s.n) (v : Bool) (h : ∀ x ∈ xs, decide (x * d ≤ j) = v) :
    (bring (s.wrds xs) y s.n s.n).getD (s.at_.getD j 0) 0 = if v = true then 1 else 0 := by
  obtain ⟨n1, n2, -⟩ := StV.n_le hok
  have ha : ArrL s.at_ s.n := s.arr (by omega)
  have hc : ∀ x ∈ xs, (s.word x).getD (s.at_.getD j 0) 0 = if v = true then 1 else 0 := fun x hx => by
    have := h x hx
    unfold StV.word
    rw [hd_, Int.toNat_natCast, stepWord_get ha hj]
    cases v
    · rw [if_neg (by simpa using this)]; rfl
    · rw [if_pos (by simpa using this)]; rfl
  rw [bring_get _ _ _ _ _ (ha.2.1 j hj)]
  have hag : agreeK (s.wrds xs) (s.at_.getD j 0) (s.wrds xs).length = true := agreeK_iff.2 fun k hk => by
    rw [s.wrds_len] at hk
    rw [s.wrds_get hk, s.wrds_hd hne]
    unfold bt
    rw [hc _ (List.getElem_mem hk), hc _ (List.getElem_mem hne)]
  rw [if_pos ⟨ha.2.1 j hj, hag⟩, s.wrds_hd hne]
  exact hc _ (List.getElem_mem hne)
theorem wts_get {s : StV} (hok : s.ok = true) {d m : Nat} (hd_ : s.b = (d : Int)) (hu : s.u = ((m + 1 : Nat) : Int)) (z : List UInt8) {b : Nat} (hb : b < m) : (s.wts z).getD b 0 = sumN (fun j => if j / d = b ∧ z.getD (s.at_.getD j 0) 0 = 1 then 1 else 0) s.n := by
  obtain ⟨n1, n2, -⟩ := StV.n_le hok
  have ha : ArrL s.at_ s.n := s.arr (by omega)
  unfold StV.wts weightsS
  rw [hd_, hu, Int.toNat_natCast, Int.toNat_natCast, Nat.add_sub_cancel, weightF_get _ _ _ _ hb, ha.len]
/-- Whoever is not in the coalition is not named at the ends. -/
theorem ends_first {s : StV} (hok : s.ok = true) {d m : Nat} (hd_ : s.b = (d : Int)) (hu : s.u = ((m + 1 : Nat) : Int)) (h1 : 1 ≤ d) (hm : 1 ≤ m) {xs : List Nat} (hne : 0 < xs.length) (hx : ∀ x ∈ xs, 1 ≤ x) (y : List UInt8) :
    namedB (m + 1) d (val s.x) (val s.y) (s.wts (bring (s.wrds xs) y s.n s.n)) 0 = false := by
  unfold namedB
  rw [if_pos rfl, wts_get hok hd_ hu _ (by omega), sumN_zero fun j hj => ?_]
  · rfl
  · by_cases e : j / d = 0
    · rw [bring_col hok hd_ hne y hj false fun x hx' => ?_]
      · simp
      · have := hx x hx'
        have h2 : j < d := (Nat.div_eq_zero_iff_lt (by omega)).1 e
        have h3 : 1 * d ≤ x * d := Nat.mul_le_mul_right d this
        exact decide_eq_false (by omega)
    · rw [if_neg fun g => e g.1]
theorem ends_last {s : StV} (hok : s.ok = true) {d m : Nat} (hd_ : s.b = (d : Int)) (hu : s.u = ((m + 1 : Nat) : Int)) (hn : s.n = m * d) (h1 : 1 ≤ d) (hm : 1 ≤ m) {xs : List Nat} (hne : 0 < xs.length) (hx : ∀ x ∈ xs, x < m) (y : List UInt8) :
    namedB (m + 1) d (val s.x) (val s.y) (s.wts (bring (s.wrds xs) y s.n s.n)) m = false := by
  unfold namedB
  rw [if_neg (by omega), if_pos rfl, wts_get hok hd_ hu _ (by omega)]
  have e : sumN (fun j => if j / d = m - 1 ∧ (bring (s.wrds xs) y s.n s.n).getD (s.at_.getD j 0) 0 = 1 then 1 else 0) s.n = sumN (fun j => if j / d = m - 1 then 1 else 0) s.n := sumN_congr fun j hj => by
    by_cases e : j / d = m - 1
    · rw [bring_col hok hd_ hne y hj true fun x hx' => ?_]
      · simp
      · have := hx x hx'
        have h2 : (m - 1) * d ≤ j := by rw [← e]; exact Nat.div_mul_le_self j d
        have h3 : x * d ≤ (m - 1) * d := Nat.mul_le_mul_right d (by omega)
        exact decide_eq_true (by omega)
    · rw [if_neg fun g => e g.1, if_neg e]
  rw [e, block_sum d _ (by omega), hn]
  have h2 : (m - 1 + 1) * d = (m - 1) * d + d := by rw [Nat.add_mul, Nat.one_mul]
  rw [show m - 1 + 1 = m from by omega] at h2
  exact decide_eq_false (by rw [show m - 1 + 1 = m from by omega]; omega)
/-- The members of a coalition below x. -/
def coal (C : Nat) : Nat → List Nat
  | 0 => []
  | x + 1 => if C.testBit x = true then coal C x ++ [x] else coal C x
theorem coal_mem {C : Nat} : ∀ {n x : Nat}, x ∈ coal C n ↔ x < n ∧ C.testBit x = true
  | 0, x => by simp [coal]
  | n + 1, x => by
    rw [coal]
    split
    · rename_i h
      rw [List.mem_append, coal_mem, List.mem_singleton]
      constructor
      · rintro (⟨h1, h2⟩ | rfl)
        · exact ⟨by omega, h2⟩
        · exact ⟨by omega, h⟩
      · rintro ⟨h1, h2⟩
        by_cases e : x = n
        · exact .inr e
        · exact .inl ⟨by omega, h2⟩
    · rename_i h
      rw [coal_mem]
      constructor
      · rintro ⟨h1, h2⟩; exact ⟨by omega, h2⟩
      · rintro ⟨h1, h2⟩
        by_cases e : x = n
        · subst e; exact absurd h2 h
        · exact ⟨by omega, h2⟩
theorem coal_len (C : Nat) : ∀ n, (coal C n).length ≤ n
  | 0 => Nat.le_refl _
  | n + 1 => by
    have := coal_len C n
    rw [coal]
    split
    · simp; omega
    · omega
/-- The first and the last user are never named if innocent. -/
theorem ends_ok {s : StV} (hok : s.ok = true) {d m : Nat} (hd_ : s.b = (d : Int)) (hu : s.u = ((m + 1 : Nat) : Int)) (hn : s.n = m * d) (h1 : 1 ≤ d) (hm : 1 ≤ m) (C : Nat) (hne : 0 < (coal C (m + 1)).length) (y : List UInt8) {v : Int} (hv : v ∈ s.nms (bring (s.wrds (coal C (m + 1))) y s.n s.n)) :
    (v = 0 → C.testBit 0 = true) ∧ (v = (m : Int) → C.testBit m = true) := by
  unfold StV.nms StV.nmsW namesS at hv
  rw [hu, hd_, Int.toNat_natCast, Int.toNat_natCast] at hv
  obtain ⟨x, hx, hp, rfl⟩ := namesF_mem.1 hv
  refine ⟨fun e => ?_, fun e => ?_⟩
  · obtain rfl : x = 0 := by omega
    cases hb : C.testBit 0
    · rw [ends_first hok hd_ hu h1 hm hne (fun x hx => ?_) y] at hp
      · cases hp
      · rcases Nat.eq_zero_or_pos x with rfl | h
        · rw [(coal_mem.1 hx).2] at hb; cases hb
        · exact h
    · rfl
  · obtain rfl : x = m := by omega
    cases hb : C.testBit x
    · rw [ends_last hok hd_ hu hn h1 hm hne (fun z hz => ?_) y] at hp
      · cases hp
      · obtain ⟨h2, h3⟩ := coal_mem.1 hz
        rcases Nat.lt_or_ge z x with h | h
        · exact h
        · obtain rfl : z = x := by omega
          rw [hb] at h3; cases h3
    · rfl
end Go.Proofs.YtenpkmgbaajeeaaGreat

/- Rows of bytes of one's own: stores. -/
namespace Go.Proofs.YtenpkmgbaajeeaaGreat
open Go.RowKit
set_option linter.unusedVariables false

theorem OB.room {B : Nat} {w : World} {A : Option Addr} {c : Nat} {l : List UInt8} (h : OB B w A c l) {i : Nat} (hi : i < l.length) : ∃ g, A = some ⟨g, 0, none⟩ ∧ B ≤ g ∧ g < w.heap.size ∧ w.cell? ⟨g, i, none⟩ = some (.int .u8 (bt l i : Int)) ∧ w.frozen? ⟨g, i, none⟩ = false ∧
    ∀ v : UInt8, OB B (w.setCell ⟨g, i, none⟩ (.int .u8 (v.toNat : Int))) A c (l.set i v) := by
  rcases h.2 with ⟨_, h0⟩ | ⟨g, cap, cur, hv, hB, hh, hnc, hm, hs, ht⟩
  · exact absurd h0 (by omega)
  · injection hv with h1 _ h3
    subst h1 h3
    have hb : Blk w g 5 cur := hh
    have hle : l.length ≤ cur.size := by rw [hs]; omega
    have hcur : cur[i]? = (cellsB l)[i]? := by
      rw [← ht, List.getElem?_take, if_pos (by omega)]; simp
    refine ⟨g, rfl, hB, hb.lt, ?_, hb.frozen i, fun v => ⟨by simp [cellsB], .inr ⟨g, _, cur.setIfInBounds i (.int .u8 (v.toNat : Int)), by rw [List.length_set], hB, hb.set_ i _, by rw [List.length_set]; exact hnc, hm, by rw [Array.size_setIfInBounds]; exact hs, ?_⟩⟩⟩
    · rw [hb.cell i, hcur, cellsB_get l i hi]
      simp [bt, List.getD, List.getElem?_eq_getElem hi]
    · rw [List.length_set, cellsB_set, ← ht, Array.toList_setIfInBounds, List.take_set]
/-- A store into another block leaves the row. -/
theorem OB.other {B : Nat} {w : World} {g c : Nat} {l : List UInt8} (h : OB B w (some ⟨g, 0, none⟩) c l) {p : Addr} (hp : g ≠ p.block) (u : Value) : OB B (w.setCell p u) (some ⟨g, 0, none⟩) c l := by
  refine World.ownsRow.kept h (⟨rfl, rfl, rfl, by simp, fun k hk hne => Below.heap_setCell w p u k (by simpa using hne)⟩ : w.grownBy (w.setCell p u) (some p.block)) ?_
  by_cases hv : (Value.slice (some ⟨g, 0, none⟩) l.length c).ownBlock = none
  · exact .inl hv
  · refine .inr fun e => hp ?_
    simp [Value.ownBlock] at e
    omega
theorem OB.dr {B : Nat} {w : World} {A : Option Addr} {c : Nat} {l : List UInt8} (h : OB B w A c l) : OB B w.drew A c l := h
theorem OB.drN {B : Nat} {w : World} {A : Option Addr} {c : Nat} {l : List UInt8} (h : OB B w A c l) (m : Nat) : OB B (w.drewN m) A c l := h
end Go.Proofs.YtenpkmgbaajeeaaGreat

/- The law CodeEnds: the walk. -/
namespace Go.Proofs.YtenpkmgbaajeeaaGreat
open Go.RowKit
set_option linter.unusedVariables false
set_option linter.unusedSimpArgs false

theorem wrds_snoc (s : StV) {C u : Nat} (h : C.testBit u = true) : s.wrds (coal C (u + 1)) = s.wrds (coal C u) ++ [s.word u] := by rw [coal, if_pos h]; simp [StV.wrds]
theorem coal_yes {C u : Nat} (h : C.testBit u = true) : (coal C (u + 1)).length = (coal C u).length + 1 := by rw [coal, if_pos h]; simp
theorem coal_no {C u : Nat} (h : C.testBit u = false) : coal C (u + 1) = coal C u := by rw [coal, if_neg (by rw [h]; simp)]
theorem and_u16 {a b : Nat} (ha : a < 65536) (hb : b < 65536) : bits BinOp.and IntKind.u16 (a : Int) (b : Int) = ((a &&& b : Nat) : Int) := by
  have e : ∀ n : Nat, n < 65536 → (BitVec.ofInt 16 (n : Int)).toNat = n := fun n hn => by
    rw [BitVec.ofInt_natCast, BitVec.toNat_ofNat, Nat.mod_eq_of_lt hn]
  show IntKind.u16.wrap (((BitVec.ofInt 16 (a : Int)) &&& (BitVec.ofInt 16 (b : Int))).toNat : Int) = _
  rw [BitVec.toNat_and, e a ha, e b hb, IntKind.wrap_u16]
  have := Nat.lt_of_le_of_lt (Nat.and_le_left (n := a) (m := b)) ha
  omega
/-- One bit of a coalition, as the program takes it. -/
theorem bit_u16 {C : Nat} (hC : C < 65536) (u : Nat) : ∃ q bb : Nat, (C : Int) / (2 : Int) ^ u = (q : Int) ∧ bits BinOp.and IntKind.u16 (q : Int) 1 = (bb : Int) ∧ (bb = 0 ∨ bb = 1) ∧ C.testBit u = decide (bb = 1) ∧ q < 65536 := by
  have hq : C / 2 ^ u < 65536 := Nat.lt_of_le_of_lt (Nat.div_le_self _ _) hC
  have h2 : C / 2 ^ u % 2 < 2 := Nat.mod_lt _ (by omega)
  refine ⟨C / 2 ^ u, C / 2 ^ u % 2, by rw [Int.natCast_ediv]; simp, ?_, by omega, Nat.testBit_eq_decide_div_mod_eq, hq⟩
  have := and_u16 (a := C / 2 ^ u) (b := 1) hq (by decide)
  rw [Nat.and_one_is_mod] at this
  exact this
set_option maxHeartbeats 16000000 in
set_option maxRecDepth 100000 in
theorem codeEnds_walk0 (s : StV) (C : Nat) (Y : Option Addr) (d : Nat) (y : List UInt8) (w0 : World) (h0 : StOK w0 s) (hC : C < 65536) (hy0 : BR w0 Y d y) :
    Calls Tryz.prog 6 #[.agg s.cs.toArray, .int .u16 (C : Int), .slice Y y.length d] w0 fun e w' => e = .returned (.bool true) ∧ Below w0.heap.size w0 w' := by
  obtain ⟨ny, hyl⟩ : ∃ n, y.length = n := ⟨_, rfl⟩
  rw [hyl]
  have hk := h0.k16
  obtain ⟨w, hW0⟩ : ∃ W : World, W = w0.alloc (.cells s.cs.toArray 29) := ⟨_, rfl⟩
  have b0 : Hid (Below w0.heap.size w0 w) := by unfold Hid; rw [hW0]; exact alloc_bel _ _
  have HX : Hid (∀ W, Below w.heap.size w W → Blk W w0.heap.size 29 s.cs.toArray) := fun W hW => Blk.below' (by rw [hW0]; exact Blk.new w0 _ _) hW
  have h := h0.below b0.out
  have HW0 := Lib.hid hW0
  have HIN := Lib.hid (StV.info (s := s) hk)
  have K0 : Hid (Below w.heap.size w w) := Below.refl _ _
  have hy := hy0.below b0.out
  have HVS : Hid (∀ W, Below w.heap.size w W → Calls Tryz.prog 43 #[.agg s.cs.toArray] W fun e w' => e = .returned (.bool s.ok) ∧ Below W.heap.size W w') := fun W hW => refValidSteps_any s W (h.below hW)
  by_cases hok : s.ok = true
  · obtain ⟨D, m, hD, hu0, hd1, hd2, hm1, hm2, hnm⟩ := StV.nats hok
    obtain ⟨U, hU⟩ : ∃ U, m + 1 = U := ⟨_, rfl⟩
    have hu : s.u = (U : Int) := by rw [hu0, hU]
    have HCL : Hid (∀ W, Below w.heap.size w W → W.cell? ⟨w0.heap.size, 0, none⟩ = some (.int .i64 (U : Int)) ∧ W.cell? ⟨w0.heap.size, 1, none⟩ = some (.int .i64 (D : Int))) := fun W hW => by
      obtain ⟨g0, g1, -, -⟩ := StV.cells hk (HX.out W hW)
      rw [hu] at g0
      rw [hD] at g1
      exact ⟨g0, g1⟩
    rw [hok] at HVS
    obtain ⟨n1, n2, -⟩ := StV.n_le hok
    have HWO : Hid (∀ u : Nat, u < U → ∀ W, Below w.heap.size w W → Calls Tryz.prog 19 #[.agg s.cs.toArray, .int .i64 (u : Int)] W fun e w' => (∃ A c, e = .returned (.tuple #[.slice A s.n c, .int .i64 0]) ∧ OB W.heap.size w' A c (s.word u)) ∧ Below W.heap.size W w') := fun u hu2 W hW => by
      refine (StepWord_own s (u : Int) W (h.below hW) (by omega) (by omega)).mono fun e w' hq => ?_
      obtain ⟨⟨A, c, h1, h2⟩, h3⟩ := hq
      have e1 : s.wordR (u : Int) = (s.word u, 0) := by
        unfold StV.wordR
        rw [hok, if_neg (by simp), if_neg (by omega), Int.toNat_natCast]
      rw [e1] at h1 h2
      dsimp only at h1 h2
      rw [s.word_len] at h1
      exact ⟨⟨A, c, h1, h2⟩, h3⟩
    have HCPY : Hid (∀ W, Below w.heap.size w W → Calls Tryz.prog 44 #[.slice Y ny d, .int .i64 (s.n : Int)] W fun e w' => e = .returned (.bool (copyB y s.n)) ∧ W = w') := fun W hW => refIsCopy_any Y d y s.n W hyl (hy.below hW) (by omega)
    have HFE : Hid (copyB y s.n = true → 0 < (coal C U).length → ∀ (A : Option Addr) (c : Nat) (rs : List BRow) (Z : Option Addr) (cz : Nat) (W : World), rs.length = (coal C U).length → rs.map BRow.l = s.wrds (coal C U) → RR W A c rs → BR W Z cz (bring (s.wrds (coal C U)) y s.n s.n) → Calls Tryz.prog 45 #[.slice A (coal C U).length c, .slice Z s.n cz] W fun e w' => e = .returned (.tuple #[.bool true, .int .i64 0]) ∧ Below W.heap.size W w') := fun hc hx A c rs Z cz W hl hr hR hZ => by
      have := Feasible_any A c rs Z cz _ W hl (bring_len _ _ _ _) hR hZ
      obtain ⟨k1, k2⟩ := StV.wrds_ok hok hx (by have := coal_len C U; omega)
      rw [hr, bring_feas k1 k2 hc] at this
      exact this
    have HTR : Hid (copyB y s.n = true → 0 < (coal C U).length → ∀ (Z : Option Addr) (cz : Nat) (W : World), Below w.heap.size w W → BR W Z cz (bring (s.wrds (coal C U)) y s.n s.n) → Calls Tryz.prog 26 #[.agg s.cs.toArray, .slice Z s.n cz] W fun e w' => (∃ A c, e = .returned (.tuple #[.slice A (s.nms (bring (s.wrds (coal C U)) y s.n s.n)).length c, .int .i64 0]) ∧ IR w' A c (s.nms (bring (s.wrds (coal C U)) y s.n s.n))) ∧ Below W.heap.size W w') := fun hc hx Z cz W hW hZ => (TraceSteps_any s Z cz _ W (h.below hW) (bring_len _ _ _ _) hZ).mono fun e w' hq => by
      obtain ⟨⟨A, c, h1, h2⟩, h3⟩ := hq
      obtain ⟨k1, k2⟩ := StV.wrds_ok hok hx (by have := coal_len C U; omega)
      have e1 : s.nmsR (bring (s.wrds (coal C U)) y s.n s.n) = (s.nms (bring (s.wrds (coal C U)) y s.n s.n), 0) := by
        unfold StV.nmsR
        rw [if_neg (by rw [hok]; simp), if_neg (by rw [bring_copy k1 k2 hc]; simp)]
      rw [e1] at h1 h2
      exact ⟨⟨A, c, h1, h2⟩, h3⟩
    have HEND : Hid (0 < (coal C U).length → ∀ v ∈ s.nms (bring (s.wrds (coal C U)) y s.n s.n), (v = 0 → C.testBit 0 = true) ∧ (v = (m : Int) → C.testBit m = true) ∧ 0 ≤ v ∧ v ≤ 16) := fun hx v hv => by
      obtain ⟨g1, g2⟩ := ends_ok hok hD hu0 hnm hd1 hm1 C (by rw [hU]; exact hx) y (v := v) (by rw [hU]; exact hv)
      have g3 := (StV.nms_small hok (bring (s.wrds (coal C U)) y s.n s.n)).2 v hv
      exact ⟨g1, g2, g3.1, g3.2⟩
    have HNS : Hid ((s.nms (bring (s.wrds (coal C U)) y s.n s.n)).length ≤ 16) := (StV.nms_small hok _).1
    have HWL : Hid (∀ u, (s.word u).length = s.n) := fun u => s.word_len u
    have HWB : Hid (∀ u i, bt (s.word u) i ≤ 1) := fun u i => s.word_bit u i
    have HYL := Lib.hid hyl
    have H_Y := Lib.hid hy
    obtain ⟨n, hn⟩ : ∃ n, s.n = n := ⟨_, rfl⟩
    rw [hn] at HWO HCPY HFE HTR HEND HNS HWL hnm n1 n2
    have hni : (n : Int) ≤ 960 := by omega
    have hUi : (U : Int) ≤ 16 := by omega
    have hU1 : (1 : Int) ≤ U := by omega
    have hDi : (D : Int) ≤ 64 := by omega
    have hmi : (m : Int) ≤ 15 := by omega
    have hm0 : (1 : Int) ≤ m := by omega
    have eu1 : IntKind.i64.wrap ((U : Int) - 1) = (m : Int) := by rw [IntKind.wrap_i64]; omega
    have eu2 : (U : Int) - 1 = (m : Int) := by omega
    have em1 : (m : Int) * (D : Int) = (n : Int) := by rw [hnm, Int.natCast_mul]
    have em2 : IntKind.i64.wrap ((m : Int) * (D : Int)) = (n : Int) := by rw [em1, IntKind.wrap_i64]; omega
    have HBIT : Hid (∀ u : Nat, ∃ q bb : Nat, (C : Int) / (2 : Int) ^ u = (q : Int) ∧ bits BinOp.and IntKind.u16 (q : Int) 1 = (bb : Int) ∧ (bb = 0 ∨ bb = 1) ∧ C.testBit u = decide (bb = 1) ∧ q < 65536) := fun u => bit_u16 hC u
    have HB0 : Hid (C.testBit 0 = true → bits BinOp.and IntKind.u16 (C : Int) 1 = 1) := fun hb => by
      have := and_u16 (a := C) (b := 1) hC (by decide)
      rw [Nat.and_one_is_mod] at this
      have h2 : C % 2 = 1 := by simpa using hb
      rw [h2] at this
      exact this
    have hCi : (C : Int) ≤ 65535 := by omega
    have HCU : Hid (∀ u, (coal C u).length ≤ u) := fun u => coal_len C u
    have HN1 : Hid (1 ≤ n ∧ n ≤ 960) := ⟨n1, n2⟩
    have HUN : Hid (U ≤ 16) := by unfold Hid; omega
    clear hok hW0 h h0 hk hy hy0 hyl hC hD hu hu0 hU hnm hd1 hd2 hm1 hm2 n1 n2 hn
    generalize s.cs.toArray = cs at *
    go_enter Tryz.func6, Tryz.ntmps6
    go_wp2_with (rw [← HW0.out])
    refine (alive_any _).mono ?_
    rintro e w1 ⟨rfl, hb1⟩
    have K1 : Hid (Below w.heap.size w w1) := bel_on K0.out hb1
    clear hb1
    go_wp2_with (refine wpList_load_row rfl 29 (.tmp 3) rfl w0.heap.size rfl 29 cs (0, 0) _ (HX.out _ K1.out) Tryz.underlying29 rfl HIN.out ?_)
    refine (HVS.out _ K1.out).mono ?_
    rintro e w2 ⟨rfl, hb2⟩
    have K2 : Hid (Below w.heap.size w w2) := bel_on K1.out hb2
    clear hb2
    go_wp2_with fail
    go_loopw [8, 9] (fun vo vu wr => ∃ (u : Nat) (A1 : Option Addr) (ca : Nat) (rs : List BRow), u ≤ U ∧ vu = .int .i64 (u : Int) ∧ vo = .slice A1 (coal C u).length ca ∧ Hid (rs.map BRow.l = s.wrds (coal C u)) ∧ Hid (rs.length = (coal C u).length) ∧ Hid (RO w.heap.size wr A1 ca rs) ∧ Hid (∀ r ∈ rs, OB w.heap.size wr r.A r.c r.l) ∧ Below w.heap.size w wr) (fun _ vu _ => U - (intOf vu).toNat)
    case atStart => exact ⟨0, none, 0, [], by omega, rfl, rfl, rfl, rfl, RO.nil _ _, (fun r hr => by cases hr), K2.out⟩
    case round =>
      obtain ⟨u, A1, ca, rs, hu, rfl, rfl, HL, HK, HR, HB, hbel⟩ := hrel
      obtain ⟨c0, c1'⟩ := HCL.out _ hbel
      by_cases huU : u < U
      · have hui : (u : Int) < U := by omega
        have hu0 : (0 : Int) ≤ u := by omega
        obtain ⟨q, bb, hshr, hand, hb2, htb, hq⟩ := HBIT.out u
        have hqi : (q : Int) ≤ 65535 := by omega
        have HXU := HCU.out u
        rcases hb2 with rfl | rfl
        · have htb0 : C.testBit u = false := by rw [htb]; rfl
          have HE := Lib.hid (coal_no htb0)
          have hand' : bits BinOp.and IntKind.u16 (q : Int) 1 = 0 := hand
          clear htb htb0 hand hq huU HXU
          obtain ⟨xl, hxl⟩ : ∃ q, (coal C u).length = q := ⟨_, rfl⟩
          have HXE := Lib.hid hxl
          rw [hxl]
          clear hxl
          go_wp2_with fail
          go_roundw
          case rel => exact ⟨u + 1, A1, ca, rs, by omega, by go_num, by rw [HE.out, HXE.out], by rw [HE.out]; exact HL.out, by rw [HE.out]; exact HK.out, HR.out, HB.out, hbel⟩
          case measure => simp [intOf]; omega
        · have htb1 : C.testBit u = true := by rw [htb]; rfl
          have HE := Lib.hid (coal_yes htb1)
          have HEW := Lib.hid (wrds_snoc s htb1)
          have hand' : bits BinOp.and IntKind.u16 (q : Int) 1 = 1 := hand
          have HXL : Hid (rs.length ≤ 16) := by have := HK.out; have := HUN.out; unfold Hid; omega
          have HWU := Lib.hid (HWO.out u huU)
          clear htb htb1 hand hq huU HXU
          obtain ⟨xl, hxl⟩ : ∃ q, (coal C u).length = q := ⟨_, rfl⟩
          rw [hxl] at HK HE ⊢
          have KR : Hid (Below w.heap.size w wr) := hbel
          clear hxl
          go_wp2_with (refine wpList_load_row rfl 29 (.tmp 3) rfl w0.heap.size rfl 29 cs (0, 0) _ (HX.out _ KR.out) Tryz.underlying29 rfl HIN.out ?_)
          refine (HWU.out _ hbel).mono ?_
          rintro e w3 ⟨⟨A3, c3, rfl, hv3⟩, hb3⟩
          have K3 : Hid (Below w.heap.size w w3) := bel_on hbel hb3
          have V3 : Hid (OB w.heap.size w3 A3 c3 (s.word u)) := OB.le_ hv3 hbel.size
          have HR3 := Lib.hid (HR.out.below hb3)
          have HB3 : Hid (∀ r ∈ rs, OB w.heap.size w3 r.A r.c r.l) := fun r hr => (HB.out r hr).below hb3
          clear c0 c1' hv3 hb3
          obtain ⟨c0, c1⟩ := HCL.out _ K3.out
          have hnn : ¬ ((n : Int) ≠ (n : Int)) := by simp
          have HSRC : Hid (∀ W : World, Src (W.alloc (.cells #[.slice A3 n c3] 30)) 1 (some ⟨W.heap.size, 0, none⟩) 1 [BRow.v ⟨A3, c3, s.word u⟩]) := fun W => by
            show Src _ 1 _ 1 [.slice A3 (s.word u).length c3]
            rw [HWL.out u]
            exact Src.one _ _ _
          go_wp2_with (first | (at_builtin; refine wpList_append_row _ rfl (.tmp 56) (.tmp 58) rfl w.heap.size A1 xl ca rs HK.out rfl (HR3.out.below (alloc_bel _ _)) ⟨A3, c3, s.word u⟩ (some ⟨w3.heap.size, 0, none⟩) 1 rfl (HSRC.out w3) (by have := HXL.out; have := HK.out; omega) (by have := K3.out.size; simp; omega) ?_; intro A4 c4 w4 hon4 hbl4 hg4))
          have HB4 : Hid (∀ r ∈ rs ++ [⟨A3, c3, s.word u⟩], OB w.heap.size w4 r.A r.c r.l) := fun r hr => by
            have hro := HR3.out.below (alloc_bel w3 (.cells #[.slice A3 n c3] 30))
            unfold RO at hro
            rw [HK.out] at hro
            rcases List.mem_append.1 hr with hr | hr
            · exact own_kept ((HB3.out r hr).below (alloc_bel w3 _)) hro (by decide) hg4
            · rw [List.mem_singleton.1 hr]
              exact own_kept (V3.out.below (alloc_bel w3 _)) hro (by decide) hg4
          have HON4 := Lib.hid hon4
          have K4 : Hid (Below w.heap.size w w4) := (bel_on K3.out (alloc_bel w3 _)).trans hbl4
          clear hon4 hg4 hbl4
          go_wp2_with fail
          go_roundw
          case rel => exact ⟨u + 1, A4, c4, rs ++ [(⟨A3, c3, s.word u⟩ : BRow)], by omega, by go_num, by rw [HE.out], by unfold Hid; rw [HEW.out, List.map_append, HL.out]; rfl, by unfold Hid; rw [List.length_append, HK.out, HE.out]; rfl, HON4.out, HB4.out, K4.out⟩
          case measure => simp [intOf]; omega
      · obtain rfl : u = U := by omega
        have hx5 : ¬ ((u : Int) < (u : Int)) := by omega
        obtain ⟨wq, hwq⟩ : ∃ W, W = wr := ⟨_, rfl⟩
        subst hwq
        have K3 : Hid (Below w.heap.size w wq) := hbel
        have HRLN : Hid (∀ r ∈ rs, r.l.length = n ∧ ∀ i, bt r.l i ≤ 1) := fun r hr => by
          have hm : r.l ∈ rs.map BRow.l := List.mem_map.2 ⟨r, hr, rfl⟩
          rw [HL.out] at hm
          obtain ⟨x, -, hx⟩ := List.mem_map.1 hm
          rw [← hx]
          exact ⟨HWL.out x, HWB.out x⟩
        have HXU := HCU.out u
        generalize s.wrds (coal C u) = ws at *
        obtain ⟨xl, hxl⟩ : ∃ q, (coal C u).length = q := ⟨_, rfl⟩
        rw [hxl] at HK HFE HTR HEND HXU ⊢
        have hxi : (xl : Int) ≤ 16 := by omega
        clear hxl huU
        by_cases hx0 : xl = 0
        · subst hx0
          go_wp2_with fail
          go_ret
          exact ⟨by simp, bel_on b0.out K3.out⟩
        have hxp : 0 < xl := by omega
        have hxpi : (0 : Int) < xl := by omega
        have tx1 : decide ((xl : Int) = 0) = false := by simp; omega
        have tx2 : ((xl : Int) == 0) = false := by simp; omega
        have tx3 : decide (xl = 0) = false := by simp; omega
        have tx4 : (xl == 0) = false := by simp; omega
        have HXP := Lib.hid hxp
        clear hx0 hxp
        go_wp2_with fail
        refine (HCPY.out _ K3.out).mono ?_
        rintro e w4 ⟨rfl, rfl⟩
        clear c0 c1' tx1 tx2 tx3 tx4
        cases hc : copyB y n
        · go_wp2_with fail
          go_ret
          exact ⟨by simp, bel_on b0.out K3.out⟩
        have HCY := Lib.hid hc
        obtain ⟨hyn, -⟩ := copyB_sym hc
        have hnyn : ny = n := by have := HYL.out; omega
        subst hnyn
        clear hc
        have HRR : Hid (∀ W, Below wq.heap.size wq W → RR W A1 ca rs) := fun W hW => RR.below (RO.rr HR.out (by have := HK.out; omega) (fun r hr => (HB.out r hr).br (by rw [(HRLN.out r hr).1]; omega))) hW
        have HBZ : Hid (bring ws y ny 0 = y) := bring_zero ws HYL.out
        go_wp2_with (at_builtin; refine wpList_append_bytes _ rfl (.tmp 75) (.tmp 76) rfl wq.heap.size (some ⟨wq.heap.size, 0, none⟩) 0 0 [] rfl rfl (OB.lit0 _ _ (Nat.le_refl _)) Y ny d y HYL.out rfl ((H_Y.out.below (bel_on K3.out (alloc_bel _ _))).src HYL.out) (by omega) (by simp) ?_; intro A5 c5 w5 hon5 hbl5 hg5; clear hg5; have E5 : Hid (Below wq.heap.size wq w5) := (alloc_bel wq _).trans hbl5; have P5 : Hid (OB wq.heap.size w5 A5 c5 y) := hon5; clear hon5 hbl5; simp only [Nat.zero_add])
        obtain ⟨gz, rfl, gz1, gz2, -, -, -⟩ := P5.out.room (i := 0) (by rw [HYL.out]; have := HN1.out; omega)
        have HGZ : Hid (wq.heap.size ≤ gz) := gz1
        clear gz1 gz2
        obtain ⟨b, off, rfl, -⟩ : ∃ b off, A1 = some ⟨b, off, none⟩ ∧ True := by
          obtain ⟨b, off, r, e, -, -, -, -⟩ := (HRR.out _ (Below.refl _ _)).at_ (i := 0) (by rw [HK.out]; exact HXP.out)
          exact ⟨b, off, e, trivial⟩
        have HROW : Hid (∀ k i, k < xl → i < ny → ∃ p o cc, ∀ W, Below wq.heap.size wq W → W.cell? ⟨b, off + k, none⟩ = some (.slice (some ⟨p, o, none⟩) ny cc) ∧ W.cell? ⟨p, o + i, none⟩ = some (.int .u8 (bt (ws.getD k []) i : Int)) ∧ bt (ws.getD k []) i ≤ 1) := fun k i hk hi => by
          obtain ⟨b', off', r, e, hb, hr, hcr, hR⟩ := (HRR.out _ (Below.refl _ _)).at_ (i := k) (by rw [HK.out]; exact hk)
          injection e with e
          injection e with e1 e2
          subst e1 e2
          obtain ⟨hl1, hl2⟩ := HRLN.out r (List.mem_of_getElem? hr)
          have hlr := row_l hr
          rw [HL.out] at hlr
          obtain ⟨p, o, e', hp, hcb⟩ := hR.at_ (i := i) (by rw [hl1]; exact hi)
          rw [e', hl1] at hcr
          refine ⟨p, o, r.c, fun W hW => ⟨(hW.cell (World.block_lt_of_cell? _ _ hcr)).trans hcr, ?_, by rw [hlr]; exact hl2 i⟩⟩
          rw [hlr]
          exact (hW.cell (World.block_lt_of_cell? _ _ hcb)).trans hcb
        go_loopw [13] (fun vi wr2 => ∃ i : Nat, i ≤ ny ∧ vi = .int .i64 (i : Int) ∧ Hid (OB wq.heap.size wr2 (some ⟨gz, 0, none⟩) c5 (bring ws y ny i)) ∧ Below wq.heap.size wq wr2) (fun vi _ => ny - (intOf vi).toNat)
        case atStart => exact ⟨0, by omega, rfl, by rw [HBZ.out]; exact P5.out, E5.out⟩
        case round =>
          obtain ⟨i, hi, rfl, HO2, hbel2⟩ := hrel
          obtain ⟨wr2, hwr2⟩ : ∃ W, W = wr := ⟨_, rfl⟩
          subst hwr2
          by_cases hin : i < ny
          · have hii : (i : Int) < ny := by omega
            have hi0 : (0 : Int) ≤ i := by omega
            go_wp2_with fail
            go_loopw [14, 15] (fun vs vk wr3 => ∃ k : Nat, k ≤ xl ∧ vk = .int .i64 (k : Int) ∧ vs = .bool (agreeK ws i k) ∧ Hid (OB wq.heap.size wr3 (some ⟨gz, 0, none⟩) c5 (bring ws y ny i)) ∧ Below wq.heap.size wq wr3) (fun _ vk _ => xl - (intOf vk).toNat)
            case atStart => exact ⟨0, by omega, rfl, rfl, HO2.out, hbel2⟩
            case round =>
              obtain ⟨k, hk, rfl, rfl, HO3, hbel3⟩ := hrel
              obtain ⟨wr3, hwr3⟩ : ∃ W, W = wr := ⟨_, rfl⟩
              subst hwr3
              obtain ⟨p0, o0, cc0, hc0⟩ := HROW.out 0 i HXP.out hin
              obtain ⟨c00, b00, hx0⟩ := hc0 _ hbel3
              rw [Nat.add_zero] at c00
              have HDH : Hid (ws.getD 0 [] = hd ws) := rfl
              rw [HDH.out] at b00 hx0
              clear hc0
              by_cases hkn : k < xl
              · have hki : (k : Int) < xl := by omega
                have hk0 : (0 : Int) ≤ k := by omega
                obtain ⟨pk, ok, ck, hck⟩ := HROW.out k i hkn hin
                obtain ⟨ck0, bk0, hxk⟩ := hck _ hbel3
                clear hck
                obtain ⟨x, hbx⟩ : ∃ q, bt (ws.getD k []) i = q := ⟨_, rfl⟩
                obtain ⟨x0, hb0⟩ : ∃ q, bt (hd ws) i = q := ⟨_, rfl⟩
                rw [hbx] at bk0 hxk
                rw [hb0] at b00 hx0
                have HBX := Lib.hid hbx
                have HB0X := Lib.hid hb0
                have hx1 : (x : Int) ≤ 1 := by omega
                have hx2 : (x0 : Int) ≤ 1 := by omega
                obtain ⟨ag, hag⟩ : ∃ q, agreeK ws i k = q := ⟨_, rfl⟩
                rw [hag]
                have HAG := Lib.hid hag
                clear hag hbx hb0 hxk hx0
                cases ag
                · have HS1 : Hid (agreeK ws i (k + 1) = false) := by unfold Hid; rw [agreeK, HAG.out]; rfl
                  go_wp2_with fail
                  go_quiet (fail)
                  go_wp2_with fail
                  go_roundw
                  case rel => exact ⟨k + 1, by omega, by go_num, by rw [HS1.out], HO3.out.drN _, below_drewN hbel3 _⟩
                  case measure => simp [intOf]; omega
                · by_cases hxx : x = x0
                  · have HS1 : Hid (agreeK ws i (k + 1) = true) := by unfold Hid; rw [agreeK, HAG.out, HBX.out, HB0X.out, hxx]; simp
                    subst hxx
                    clear hx1 hx2 hin hkn
                    go_wp2_with fail
                    go_quiet (fail)
                    go_wp2_with fail
                    go_roundw
                    case rel => exact ⟨k + 1, by omega, by go_num, by rw [HS1.out], HO3.out.drN _, below_drewN hbel3 _⟩
                    case measure => simp [intOf]; omega
                  · have HS1 : Hid (agreeK ws i (k + 1) = false) := by unfold Hid; rw [agreeK, HAG.out, HBX.out, HB0X.out]; simp [hxx]
                    have te1 : decide ((x : Int) = (x0 : Int)) = false := by simp; omega
                    have te2 : ((x : Int) == (x0 : Int)) = false := by simp; omega
                    have te3 : decide (x = x0) = false := by simp; omega
                    have te4 : (x == x0) = false := by simp; omega
                    clear hx1 hx2 hin hkn hxx
                    go_wp2_with fail
                    go_quiet (fail)
                    go_wp2_with fail
                    go_roundw
                    case rel => exact ⟨k + 1, by omega, by go_num, by rw [HS1.out], HO3.out.drN _, below_drewN hbel3 _⟩
                    case measure => simp [intOf]; omega
              · obtain rfl : k = xl := by omega
                have hx6 : ¬ ((k : Int) < (k : Int)) := by omega
                have HWN : Hid (ws.length = k) := by unfold Hid; rw [← HL.out, List.length_map]; exact HK.out
                clear hkn hk
                cases hag : agreeK ws i k
                · have HKP : Hid (bring ws y ny i = bring ws y ny (i + 1)) := bring_keep y ny i (by rw [HWN.out]; exact hag)
                  clear hag hin
                  go_wp2_with fail
                  go_roundw
                  case rel => exact ⟨i + 1, by omega, by go_num, by rw [← HKP.out]; exact HO3.out, hbel3⟩
                  case measure => simp [intOf]; omega
                · have HKP : Hid ((bring ws y ny i).set i ((hd ws).getD i 0) = bring ws y ny (i + 1)) := bring_set y ny i hin (by rw [HWN.out]; exact hag)
                  obtain ⟨gz', e1, -, -, kz, kf, hz3⟩ := HO3.out.room (i := i) (by rw [bring_len]; exact hin)
                  injection e1 with e1
                  injection e1 with e1 _
                  subst e1
                  have hz4 := hz3 ((hd ws).getD i 0)
                  rw [HKP.out] at hz4
                  have HZ4 : Hid (OB wq.heap.size (wr3.setCell ⟨gz, i, none⟩ (.int .u8 (bt (hd ws) i : Int))) (some ⟨gz, 0, none⟩) c5 (bring ws y ny (i + 1))) := hz4
                  have DZ4 : Hid (Below wq.heap.size wq (wr3.setCell ⟨gz, i, none⟩ (.int .u8 (bt (hd ws) i : Int)))) := hbel3.setCell (p := ⟨gz, i, none⟩) HGZ.out _
                  obtain ⟨x0, hb0⟩ : ∃ q, bt (hd ws) i = q := ⟨_, rfl⟩
                  rw [hb0] at b00 hx0 HZ4 DZ4
                  have hx2 : (x0 : Int) ≤ 1 := by omega
                  clear hag hin hz3 hz4 hb0 hx0
                  go_wp2_with fail
                  go_roundw
                  case rel => exact ⟨i + 1, by omega, by go_num, HZ4.out, DZ4.out⟩
                  case measure => simp [intOf]; omega
          · obtain rfl : i = ny := by omega
            have hx5 : ¬ ((i : Int) < (i : Int)) := by omega
            have K6 : Hid (Below w.heap.size w wr2) := bel_on K3.out hbel2
            have HZB : Hid (BR wr2 (some ⟨gz, 0, none⟩) c5 (bring ws y i i)) := HO2.out.br (by rw [bring_len]; have := HN1.out; omega)
            have HFE2 := Lib.hid (HFE.out HCY.out HXP.out (some ⟨b, off, none⟩) ca rs (some ⟨gz, 0, none⟩) c5 wr2 HK.out HL.out (HRR.out _ hbel2) HZB.out)
            have HTR2 := Lib.hid (HTR.out HCY.out HXP.out (some ⟨gz, 0, none⟩) c5)
            have HEN2 := Lib.hid (HEND.out HXP.out)
            generalize bring ws y i i = zz at *
            generalize s.nms zz = nm at *
            obtain ⟨nl, hnl⟩ : ∃ q, nm.length = q := ⟨_, rfl⟩
            have hnli : (nl : Int) ≤ 16 := by have := HNS.out; omega
            rw [hnl] at HTR2
            have HNL := Lib.hid hnl
            clear hnl hin
            go_wp2_with fail
            refine HFE2.out.mono ?_
            rintro e w7 ⟨rfl, hb7⟩
            have K7 : Hid (Below w.heap.size w w7) := bel_on K6.out hb7
            have Z7 := Lib.hid (HZB.out.below hb7)
            clear hb7
            go_wp2_with (refine wpList_load_row rfl 29 (.tmp 3) rfl w0.heap.size rfl 29 cs (0, 0) _ (HX.out _ K7.out) Tryz.underlying29 rfl HIN.out ?_)
            refine (HTR2.out _ K7.out Z7.out).mono ?_
            rintro e w8 ⟨⟨A8, c8, rfl, hi8⟩, hb8⟩
            have K8 : Hid (Below w.heap.size w w8) := bel_on K7.out hb8
            have I8 := Lib.hid hi8
            clear hb8 hi8
            go_wp2_with fail
            go_loopw [20] (fun vj wr4 => ∃ j : Nat, j ≤ nl ∧ vj = .int .i64 (j : Int) ∧ Below w8.heap.size w8 wr4) (fun vj _ => nl - (intOf vj).toNat)
            case atStart => exact ⟨0, by omega, rfl, Below.refl _ _⟩
            case round =>
              obtain ⟨j, hj, rfl, hbel4⟩ := hrel
              obtain ⟨wr4, hwr4⟩ : ∃ W, W = wr := ⟨_, rfl⟩
              subst hwr4
              by_cases hjn : j < nl
              · have hji : (j : Int) < nl := by omega
                have hj0 : (0 : Int) ≤ j := by omega
                obtain ⟨pl, ol, rfl, -, hcl⟩ := (I8.out.below hbel4).at_ (i := j) (by rw [HNL.out]; exact hjn)
                obtain ⟨v1, v2, v3, v4⟩ := HEN2.out (it nm j) (by rw [it_in (by rw [HNL.out]; exact hjn)]; exact List.getElem_mem _)
                obtain ⟨c0, -⟩ := HCL.out _ (bel_on K8.out hbel4)
                obtain ⟨q, bb, hshr, hand, hb2, htb, hq⟩ := HBIT.out m
                have hqi : (q : Int) ≤ 65535 := by omega
                obtain ⟨v, hv⟩ : ∃ v, it nm j = v := ⟨_, rfl⟩
                rw [hv] at hcl v1 v2 v3 v4
                clear hv hjn
                by_cases hv0 : v = 0
                · subst hv0
                  have h1c := HB0.out (v1 rfl)
                  have tm1 : decide ((0 : Int) = (m : Int)) = false := by simp; omega
                  have tm2 : ((0 : Int) == (m : Int)) = false := by simp; omega
                  clear v1 v2 v3 v4 hb2 htb hq
                  go_wp2_with fail
                  go_quiet (fail)
                  go_wp2_with fail
                  go_roundw
                  case rel => exact ⟨j + 1, by omega, by go_num, below_drewN hbel4 _⟩
                  case measure => simp [intOf]; omega
                · have tv1 : decide (v = 0) = false := by simp [hv0]
                  have tv2 : (v == 0) = false := by simp [hv0]
                  by_cases hvm : v = (m : Int)
                  · subst hvm
                    have h1c : bits BinOp.and IntKind.u16 (q : Int) 1 = 1 := by
                      have := v2 rfl
                      rw [htb] at this
                      rw [hand]
                      have h3 : bb = 1 := by simpa using this
                      rw [h3]; rfl
                    clear v1 v2 v3 v4 hb2 htb hq hand hv0
                    go_wp2_with fail
                    go_quiet (fail)
                    go_wp2_with fail
                    go_roundw
                    case rel => exact ⟨j + 1, by omega, by go_num, below_drewN hbel4 _⟩
                    case measure => simp [intOf]; omega
                  · have tm1 : decide (v = (m : Int)) = false := by simp [hvm]
                    have tm2 : (v == (m : Int)) = false := by simp [hvm]
                    clear v1 v2 hb2 htb hq hand hv0 hvm
                    go_wp2_with fail
                    go_quiet (fail)
                    go_wp2_with fail
                    go_roundw
                    case rel => exact ⟨j + 1, by omega, by go_num, below_drewN hbel4 _⟩
                    case measure => simp [intOf]; omega
              · obtain rfl : j = nl := by omega
                have hx7 : ¬ ((j : Int) < (j : Int)) := by omega
                go_wp2_with fail
                go_ret
                exact ⟨by simp, bel_on b0.out (bel_on K8.out hbel4)⟩
  · have hok2 : s.ok = false := by simpa using hok
    rw [hok2] at HVS
    generalize s.cs.toArray = cs at *
    clear hok hok2 hW0 h h0 hk hC hy hy0
    go_enter Tryz.func6, Tryz.ntmps6
    go_wp2_with (rw [← HW0.out])
    refine (alive_any _).mono ?_
    rintro e w1 ⟨rfl, hb1⟩
    have K1 : Hid (Below w.heap.size w w1) := bel_on K0.out hb1
    clear hb1
    go_wp2_with (refine wpList_load_row rfl 29 (.tmp 3) rfl w0.heap.size rfl 29 cs (0, 0) _ (HX.out _ K1.out) Tryz.underlying29 rfl HIN.out ?_)
    refine (HVS.out _ K1.out).mono ?_
    rintro e w2 ⟨rfl, hb2⟩
    have K2 : Hid (Below w.heap.size w w2) := bel_on K1.out hb2
    clear hb2
    go_wp2_with fail
    go_ret
    exact ⟨by simp, bel_on b0.out K2.out⟩
theorem codeEnds_walk (s : StV) (C : Nat) (Y : Option Addr) (d : Nat) (y : List UInt8) (w : World) (h : StOK w s) (hc : C < 65536) (hy : BR w Y d y) :
    Calls Tryz.prog 6 #[.agg s.cs.toArray, .int .u16 (C : Int), .slice Y y.length d] w fun e w' => e = .returned (.bool true) ∧ Below w.heap.size w w' := codeEnds_walk0 s C Y d y w h hc hy
end Go.Proofs.YtenpkmgbaajeeaaGreat
