/-
  parted, whatever the numbers; the greatest common divisor.
-/
import Derived.Test.YtphaojdfeojpeaaPartedOne
import Derived.Test.YtphaojdfeojpeaaRefParted
namespace Go.Proofs.Ytphaojdfeojpeaa
open Go.RowKit
set_option linter.unusedVariables false

theorem parted_any (A : Option Addr) (ca : Nat) (a : List Nat) (Bd : Option Addr) (cb : Nat) (b : List Nat) (w : World) {na nb : Nat} (hna : a.length = na) (hnb : b.length = nb) (ha : NR w A ca a) (hb : NR w Bd cb b) (ta : Trm a) (tb : Trm b) (hne : b ≠ []) (la : na ≤ 1048000) (lb : nb ≤ 1048000) :
    Calls Try.prog 75 #[.slice A na ca, .slice Bd nb cb] w fun e w' => PartOut w w' e (val a) (val b) := by
  rcases Nat.lt_or_ge (val a) (val b) with h | h
  · exact parted_less A ca a Bd cb b w hna hnb ha hb ta tb h
  · by_cases h1 : nb = 1
    · subst hna h1
      exact parted_one A ca a Bd cb b w hnb ha hb ta tb h (by omega)
    · have : 1 ≤ nb := by
        cases b with
        | nil => exact absurd rfl hne
        | cons x l => simp at hnb; omega
      exact parted_many A ca a Bd cb b w hna hnb ha hb ta tb h (by omega) (by omega) (by omega)

/-- The greatest common divisor. -/
def gcdN (a b : Nat) : Nat := Nat.gcd a b
theorem gcdN_zero (a : Nat) : gcdN a 0 = a := Nat.gcd_zero_right a
theorem gcdN_next (a b : Nat) : gcdN b (a % b) = gcdN a b := by unfold gcdN; rw [Nat.gcd_comm, ← Nat.gcd_rec, Nat.gcd_comm]
theorem digs_len_pos {n : Nat} (h : n ≠ 0) : 0 < (digs n).length := List.length_pos_iff.2 (digs_ne h)

set_option maxHeartbeats 1000000 in
set_option maxRecDepth 100000 in
theorem common_any (A : Option Addr) (ca : Nat) (a : List Nat) (Bd : Option Addr) (cb : Nat) (b : List Nat) (w : World) {na nb : Nat} (hna : a.length = na) (hnb : b.length = nb) (ha : NR w A ca a) (hb : NR w Bd cb b) (ta : Trm a) (tb : Trm b) (la : na ≤ 1048000) (lb : nb ≤ 1048000) :
    Calls Try.prog 89 #[.slice A na ca, .slice Bd nb cb] w fun e w' => ∃ A' c', e = .returned (.slice A' (digs (gcdN (val a) (val b))).length c') ∧ NF w.heap.size w' A' c' (digs (gcdN (val a) (val b))) ∧ Below w.heap.size w w' := by
  have Ea := digs_val ha.dig ta
  have Eb := digs_val hb.dig tb
  have Ha : Hid (na = (digs (val a)).length) := by rw [Ea]; exact hna.symm
  have Hb : Hid (nb = (digs (val b)).length) := by rw [Eb]; exact hnb.symm
  have Ra : Hid (NR w A ca (digs (val a))) := by rw [Ea]; exact ha
  have Rb : Hid (NR w Bd cb (digs (val b))) := by rw [Eb]; exact hb
  generalize val a = x0 at *
  generalize val b = y0 at *
  clear Ea Eb hna hnb ha hb ta tb
  go_enter Try.func89, Try.ntmps89
  go_wp2_with fail
  go_loopg [0, 1] y0 (fun g va vb wr => ∃ (x : Nat) (X Y : Option Addr) (cx cy : Nat), va = .slice X (digs x).length cx ∧ vb = .slice Y (digs g).length cy ∧ Hid (gcdN x g = gcdN x0 y0) ∧ Hid (NR wr X cx (digs x)) ∧ Hid (NR wr Y cy (digs g)) ∧ (digs x).length ≤ 1048000 ∧ (digs g).length ≤ 1048000 ∧ Below w.heap.size w wr)
  case atStart => exact ⟨x0, A, Bd, ca, cb, by rw [Ha.out], by rw [Hb.out], rfl, Ra.out, Rb.out, by rw [← Ha.out]; exact la, by rw [← Hb.out]; exact lb, Below.refl _ _⟩
  case round =>
    obtain ⟨x, X, Y, cx, cy, rfl, rfl, HG, RX, RY, lx, ly, hbel⟩ := hrel
    obtain ⟨wo, rfl⟩ : ∃ wo : World, wo = wr := ⟨_, rfl⟩
    have lxi : ((digs x).length : Int) ≤ 1048000 := int_le_of lx
    have lyi : ((digs gk).length : Int) ≤ 1048000 := int_le_of ly
    by_cases h0 : gk = 0
    · subst h0
      rw [gcdN_zero] at HG
      have hz : ((digs 0).length : Int) = 0 := rfl
      have hz0 : decide (0 < (digs 0).length) = false := rfl
      go_wp2_with fail
      refine (Clone_any X cx (digs x) _ rfl RX.out).mono ?_
      rintro e w1 ⟨A', c', rfl, hnf, hb1⟩
      go_wp2_with fail
      go_ret
      have := HG.out
      subst this
      exact ⟨A', c', rfl, hnf.mono hbel.size, hbel.trans (hb1.mono hbel.size)⟩
    · have hp := digs_len_pos h0
      have hpd : decide (0 < (digs gk).length) = true := by simpa using hp
      have HN := Lib.hid (gcdN_next x gk)
      have HP := Lib.hid h0
      have HLT : Hid (x % gk < gk) := Nat.mod_lt _ (Nat.pos_of_ne_zero h0)
      have HLM : Hid ((digs (x % gk)).length ≤ 1048000) := Nat.le_trans (digs_len_of_lt HLT.out) ly
      clear h0
      go_wp2_with fail
      refine (parted_any X cx (digs x) Y cy (digs gk) _ rfl rfl RX.out RY.out (Trm.digs _) (Trm.digs _) (digs_ne HP.out) lx ly).mono ?_
      rintro e w1 ⟨Q, cq, R, cr, rfl, hQ, hR, hap, hb1⟩
      rw [val_digs, val_digs] at hQ hR ⊢
      have hR2 := Lib.hid hR
      clear hQ hR hap
      go_wp2_with fail
      go_roundg (x % gk)
      case measure => exact HLT.out
      case rel => exact ⟨gk, Y, R, cy, cr, rfl, rfl, HN.out.trans HG.out, RY.out.below hb1, hR2.out.1, ly, HLM.out, hbel.trans (hb1.mono hbel.size)⟩

set_option maxHeartbeats 1000000 in
set_option maxRecDepth 100000 in
theorem refCommon_any (A : Option Addr) (ca : Nat) (a : List Nat) (Bd : Option Addr) (cb : Nat) (b : List Nat) (w : World) {na nb : Nat} (hna : a.length = na) (hnb : b.length = nb) (ha : NR w A ca a) (hb : NR w Bd cb b) (ta : Trm a) (tb : Trm b) (la : na ≤ 1048000) (lb : nb ≤ 1048000) :
    Calls Try.prog 102 #[.slice A na ca, .slice Bd nb cb] w fun e w' => ∃ A' c', e = .returned (.slice A' (digs (gcdN (val a) (val b))).length c') ∧ NF w.heap.size w' A' c' (digs (gcdN (val a) (val b))) ∧ Below w.heap.size w w' := by
  have Ea := digs_val ha.dig ta
  have Eb := digs_val hb.dig tb
  have Ha : Hid (na = (digs (val a)).length) := by rw [Ea]; exact hna.symm
  have Hb : Hid (nb = (digs (val b)).length) := by rw [Eb]; exact hnb.symm
  have Ra : Hid (NR w A ca (digs (val a))) := by rw [Ea]; exact ha
  have Rb : Hid (NR w Bd cb (digs (val b))) := by rw [Eb]; exact hb
  generalize val a = x0 at *
  generalize val b = y0 at *
  clear Ea Eb hna hnb ha hb ta tb
  go_enter Try.func102, Try.ntmps102
  go_wp2_with fail
  go_loopg [0, 1] y0 (fun g va vb wr => ∃ (x : Nat) (X Y : Option Addr) (cx cy : Nat), va = .slice X (digs x).length cx ∧ vb = .slice Y (digs g).length cy ∧ Hid (gcdN x g = gcdN x0 y0) ∧ Hid (NR wr X cx (digs x)) ∧ Hid (NR wr Y cy (digs g)) ∧ (digs x).length ≤ 1048000 ∧ (digs g).length ≤ 1048000 ∧ Below w.heap.size w wr)
  case atStart => exact ⟨x0, A, Bd, ca, cb, by rw [Ha.out], by rw [Hb.out], rfl, Ra.out, Rb.out, by rw [← Ha.out]; exact la, by rw [← Hb.out]; exact lb, Below.refl _ _⟩
  case round =>
    obtain ⟨x, X, Y, cx, cy, rfl, rfl, HG, RX, RY, lx, ly, hbel⟩ := hrel
    obtain ⟨wo, rfl⟩ : ∃ wo : World, wo = wr := ⟨_, rfl⟩
    have lxi : ((digs x).length : Int) ≤ 1048000 := int_le_of lx
    have lyi : ((digs gk).length : Int) ≤ 1048000 := int_le_of ly
    by_cases h0 : gk = 0
    · subst h0
      rw [gcdN_zero] at HG
      have hz : ((digs 0).length : Int) = 0 := rfl
      have hz0 : decide (0 < (digs 0).length) = false := rfl
      go_wp2_with fail
      refine (refTrim_any X cx (digs x) _ rfl RX.out).mono ?_
      rintro e w1 ⟨A', c', rfl, hnf, hb1⟩
      rw [val_digs] at hnf ⊢
      go_wp2_with fail
      go_ret
      have := HG.out
      subst this
      exact ⟨A', c', rfl, hnf.mono hbel.size, hbel.trans (hb1.mono hbel.size)⟩
    · have hp := digs_len_pos h0
      have hpd : decide (0 < (digs gk).length) = true := by simpa using hp
      have HN := Lib.hid (gcdN_next x gk)
      have HP := Lib.hid h0
      have HLT : Hid (x % gk < gk) := Nat.mod_lt _ (Nat.pos_of_ne_zero h0)
      have HLM : Hid ((digs (x % gk)).length ≤ 1048000) := Nat.le_trans (digs_len_of_lt HLT.out) ly
      clear h0
      go_wp2_with fail
      refine (refParted_any X cx (digs x) Y cy (digs gk) _ rfl rfl RX.out RY.out (Trm.digs _) (digs_ne HP.out) lx ly).mono ?_
      rintro e w1 ⟨Q, cq, R, cr, rfl, hQ, hR, hap, hb1⟩
      rw [val_digs, val_digs] at hQ hR ⊢
      have hR2 := Lib.hid hR
      clear hQ hR hap
      go_wp2_with fail
      go_roundg (x % gk)
      case measure => exact HLT.out
      case rel => exact ⟨gk, Y, R, cy, cr, rfl, rfl, HN.out.trans HG.out, RY.out.below hb1, hR2.out.1, ly, HLM.out, hbel.trans (hb1.mono hbel.size)⟩
end Go.Proofs.Ytphaojdfeojpeaa
