/-
  Whether a fraction is valid: the program's answer and the reference's.
-/
import Derived.Test.YtphaojdfeojpeaaFracWalks
namespace Go.Proofs.Ytphaojdfeojpeaa
open Go.RowKit
set_option linter.unusedVariables false

/-- A valid fraction. -/
def vfB (a b : List Nat) : Bool := bothB a b && decide (b ≠ []) && decide (gcdN (val a) (val b) = 1)
def cfS (a b : List Nat) : Int := if vfB a b = true then 0 else 8
theorem vf_ways (a b : List Nat) : (bothB a b = false ∧ vfB a b = false) ∨ (bothB a b = true ∧ b = [] ∧ vfB a b = false) ∨ (bothB a b = true ∧ b ≠ [] ∧ gcdN (val a) (val b) ≠ 1 ∧ vfB a b = false) ∨ (bothB a b = true ∧ b ≠ [] ∧ gcdN (val a) (val b) = 1 ∧ vfB a b = true) := by
  unfold vfB
  cases h : bothB a b
  · exact .inl ⟨rfl, by simp⟩
  · by_cases h2 : b = []
    · exact .inr (.inl ⟨rfl, h2, by simp [h2]⟩)
    · by_cases h3 : gcdN (val a) (val b) = 1
      · exact .inr (.inr (.inr ⟨rfl, h2, h3, by simp [h2, h3]⟩))
      · exact .inr (.inr (.inl ⟨rfl, h2, h3, by simp [h3]⟩))
theorem bothB_parts {a b : List Nat} (h : bothB a b = true) : validB a = true ∧ validB b = true := by simpa [bothB] using h
theorem digs_one_iff {g : Nat} : digs g = [1] ↔ g = 1 := by
  constructor
  · intro e
    have := val_digs g
    rw [e] at this
    rw [← this]; rfl
  · intro e
    subst e
    rw [digs_pos (by omega)]; rfl
/-- A greatest common divisor that is not 1: another length, or another digit. -/
theorem gcd_not {g : Nat} (h0 : g ≠ 0) (h : g ≠ 1) : (digs g).length ≠ 1 ∨ ((digs g).length = 1 ∧ dg (digs g) 0 ≠ 1) := by
  by_cases hl : (digs g).length = 1
  · refine .inr ⟨hl, fun e => h ?_⟩
    match hd : digs g, hl with
    | [x], _ =>
      rw [hd] at e
      have e2 : x = 1 := e
      exact digs_one_iff.1 (by rw [hd, e2])
  · exact .inl hl

set_option maxHeartbeats 1000000 in
set_option maxRecDepth 100000 in
theorem CheckFraction_any (A : Option Addr) (ca : Nat) (a : List Nat) (Bd : Option Addr) (cb : Nat) (b : List Nat) (w : World) {na nb : Nat} (hna : a.length = na) (hnb : b.length = nb) (ha : NR w A ca a) (hb : NR w Bd cb b) :
    Calls Try.prog 38 #[.agg #[.slice A na ca, .slice Bd nb cb]] w fun e w' => e = .returned (.int .i64 (cfS a b)) ∧ Below w.heap.size w w' := by
  have Ha := Lib.hid hna
  have Hb := Lib.hid hnb
  obtain ⟨W0, hW0⟩ : ∃ W : World, W = w.alloc (.cells #[.slice A na ca, .slice Bd nb cb] 54) := ⟨_, rfl⟩
  have b0 : Below w.heap.size w W0 := by rw [hW0]; exact alloc_below _ _
  have x0 : Bx W0 w.heap.size (.slice A na ca) (.slice Bd nb cb) := by rw [hW0]; exact Bx.new _ _ _
  have Ra0 := Lib.hid (ha.below b0)
  have Rb0 := Lib.hid (hb.below b0)
  have HW0 := Lib.hid hW0
  have HZ0 : Hid (W0.heap.size = w.heap.size + 1) := by unfold Hid; rw [hW0]; simp
  -- behind 'valid'
  have xF := Lib.hid (x0.below (alloc_below W0 (.cells #[.slice A na ca, .slice Bd nb cb] 41)))
  have bF : Below w.heap.size w (W0.alloc (.cells #[.slice A na ca, .slice Bd nb cb] 41)) := b0.alloc b0.size _
  obtain ⟨c0, c1, _, _⟩ := x0.cells
  clear hna hnb ha hb hW0 x0
  rcases vf_ways a b with ⟨h1, h2⟩ | ⟨h1, h0, h2⟩ | ⟨h1, h0, hg, h2⟩ | ⟨h1, h0, hg, h2⟩
  · have H1 := Lib.hid h1
    have HS : Hid (cfS a b = 8) := by unfold Hid cfS; rw [h2]; rfl
    clear h1 h2 c0 c1
    go_enter Try.func38, Try.ntmps38
    go_wp2_with fail
    rw [← HW0.out, ← HZ0.out]
    refine (valid_two A ca a Bd cb b W0 Ha.out Hb.out Ra0.out Rb0.out _).mono ?_
    rintro e w1 ⟨rfl, rfl⟩
    rw [show (validB a && validB b) = false from H1.out]
    go_wp2_with fail
    go_ret
    exact ⟨ret_int HS.out.symm, bF⟩
  · have H1 := Lib.hid h1
    have HS : Hid (cfS a b = 8) := by unfold Hid cfS; rw [h2]; rfl
    have hz : ((nb : Int) == 0) = true := by have := Hb.out; rw [h0] at this; simp at this; simp; omega
    have hz' : (nb == 0) = true := by have := Hb.out; rw [h0] at this; simp at this; simp; omega
    obtain ⟨d0, d1, _, _⟩ := xF.out.cells
    clear h1 h2 h0 c0 c1
    go_enter Try.func38, Try.ntmps38
    go_wp2_with fail
    rw [← HW0.out, ← HZ0.out]
    refine (valid_two A ca a Bd cb b W0 Ha.out Hb.out Ra0.out Rb0.out _).mono ?_
    rintro e w1 ⟨rfl, rfl⟩
    rw [show (validB a && validB b) = true from H1.out]
    go_wp2_with fail
    go_ret
    exact ⟨ret_int HS.out.symm, bF⟩
  · have H1 := Lib.hid h1
    have HS : Hid (cfS a b = 8) := by unfold Hid cfS; rw [h2]; rfl
    obtain ⟨V1, V2⟩ := bothB_parts h1
    obtain ⟨v1, v2⟩ := validB_iff.1 V1
    obtain ⟨v3, v4⟩ := validB_iff.1 V2
    have L1 : na ≤ 16 := by have := Ha.out; omega
    have L2 : nb ≤ 16 := by have := Hb.out; omega
    have T1 := Lib.hid v2
    have T2 := Lib.hid v4
    have hg0 : gcdN (val a) (val b) ≠ 0 := gcdN_pos_right (by have := val_pos v4 h0; omega)
    have hz : ((nb : Int) == 0) = false := by have := Hb.out; have h : 0 < b.length := List.length_pos_iff.2 h0; rw [beq_eq_false_iff_ne]; omega
    have hz' : (nb == 0) = false := by have := Hb.out; have h : 0 < b.length := List.length_pos_iff.2 h0; rw [beq_eq_false_iff_ne]; omega
    obtain ⟨d0, d1, _, _⟩ := xF.out.cells
    have hgl : Hid ((digs (gcdN (val a) (val b))).length ≤ 16) := by
      have h1 := digs_len_mono (gcdN_le (x := val a) (y := val b) (by have := val_pos v4 h0; omega))
      rw [digs_val Rb0.out.dig v4] at h1
      unfold Hid; omega
    obtain ⟨g, hgg⟩ : ∃ g, gcdN (val a) (val b) = g := ⟨_, rfl⟩
    have HG := Lib.hid hgg
    rw [hgg] at hgl hg hg0
    have hli : ((digs g).length : Int) ≤ 16 := by have := hgl.out; omega
    rcases gcd_not hg0 hg with hgn | ⟨hgn, hgd⟩
    · have t1 : (((digs g).length : Int) != 1) = true := by rw [bne_iff_ne]; omega
      have t1' : ((digs g).length != 1) = true := by rw [bne_iff_ne]; exact hgn
      clear h1 h2 h0 hg hg0 v1 v2 v3 v4 V1 V2 c0 c1 hgg hgn
      go_enter Try.func38, Try.ntmps38
      go_wp2_with fail
      rw [← HW0.out, ← HZ0.out]
      refine (valid_two A ca a Bd cb b W0 Ha.out Hb.out Ra0.out Rb0.out _).mono ?_
      rintro e w1 ⟨rfl, rfl⟩
      rw [show (validB a && validB b) = true from H1.out]
      go_wp2_with fail
      refine (common_any A ca a Bd cb b _ Ha.out Hb.out (Ra0.out.alloc _) (Rb0.out.alloc _) T1.out T2.out (by omega) (by omega)).mono ?_
      rintro e w2 ⟨G, cg, rfl, hG, hb2⟩
      rw [HG.out] at hG ⊢
      have k2 := bF.trans (hb2.mono bF.size)
      have HGR := Lib.hid hG.1
      clear hG hb2 d0 d1
      go_wp2_with fail
      go_ret
      exact ⟨ret_int HS.out.symm, k2⟩
    · have t1 : (((digs g).length : Int) != 1) = false := by rw [hgn]; rfl
      have t1' : ((digs g).length != 1) = false := by rw [hgn]; rfl
      have t2 : ((dg (digs g) 0 : Int) != 1) = true := by rw [bne_iff_ne]; omega
      have t2' : (dg (digs g) 0 != 1) = true := by rw [bne_iff_ne]; exact hgd
      have HN := Lib.hid hgn
      have hlp : 0 < (digs g).length := by omega
      clear h1 h2 h0 hg hg0 v1 v2 v3 v4 V1 V2 c0 c1 hgg hgn hgd
      go_enter Try.func38, Try.ntmps38
      go_wp2_with fail
      rw [← HW0.out, ← HZ0.out]
      refine (valid_two A ca a Bd cb b W0 Ha.out Hb.out Ra0.out Rb0.out _).mono ?_
      rintro e w1 ⟨rfl, rfl⟩
      rw [show (validB a && validB b) = true from H1.out]
      go_wp2_with fail
      refine (common_any A ca a Bd cb b _ Ha.out Hb.out (Ra0.out.alloc _) (Rb0.out.alloc _) T1.out T2.out (by omega) (by omega)).mono ?_
      rintro e w2 ⟨G, cg, rfl, hG, hb2⟩
      rw [HG.out] at hG ⊢
      have k2 := bF.trans (hb2.mono bF.size)
      have HGR := Lib.hid hG.1
      clear hG hb2 d0 d1
      obtain ⟨gb, go, rfl, _, gc⟩ := HGR.out.at_ (i := 0) (by have := HN.out; omega)
      rw [Nat.add_zero] at gc
      go_wp2_with fail
      go_ret
      exact ⟨ret_int HS.out.symm, k2⟩
  · have H1 := Lib.hid h1
    have HS : Hid (cfS a b = 0) := by unfold Hid cfS; rw [h2]; rfl
    obtain ⟨V1, V2⟩ := bothB_parts h1
    obtain ⟨v1, v2⟩ := validB_iff.1 V1
    obtain ⟨v3, v4⟩ := validB_iff.1 V2
    have L1 : na ≤ 16 := by have := Ha.out; omega
    have L2 : nb ≤ 16 := by have := Hb.out; omega
    have T1 := Lib.hid v2
    have T2 := Lib.hid v4
    have hz : ((nb : Int) == 0) = false := by have := Hb.out; have h : 0 < b.length := List.length_pos_iff.2 h0; rw [beq_eq_false_iff_ne]; omega
    have hz' : (nb == 0) = false := by have := Hb.out; have h : 0 < b.length := List.length_pos_iff.2 h0; rw [beq_eq_false_iff_ne]; omega
    obtain ⟨d0, d1, _, _⟩ := xF.out.cells
    have HG := Lib.hid hg
    clear h1 h2 h0 hg v1 v2 v3 v4 V1 V2 c0 c1
    go_enter Try.func38, Try.ntmps38
    go_wp2_with fail
    rw [← HW0.out, ← HZ0.out]
    refine (valid_two A ca a Bd cb b W0 Ha.out Hb.out Ra0.out Rb0.out _).mono ?_
    rintro e w1 ⟨rfl, rfl⟩
    rw [show (validB a && validB b) = true from H1.out]
    go_wp2_with fail
    refine (common_any A ca a Bd cb b _ Ha.out Hb.out (Ra0.out.alloc _) (Rb0.out.alloc _) T1.out T2.out (by omega) (by omega)).mono ?_
    rintro e w2 ⟨G, cg, rfl, hG, hb2⟩
    rw [HG.out] at hG ⊢
    have k2 := bF.trans (hb2.mono bF.size)
    have HGR := Lib.hid hG.1
    clear hG hb2 d0 d1
    have e1 : digs 1 = [1] := digs_one_iff.2 rfl
    rw [e1] at HGR ⊢
    obtain ⟨gb, go, rfl, _, gc⟩ := HGR.out.at_ (i := 0) (by simp)
    rw [Nat.add_zero] at gc
    have gd : (dg [1] 0 : Int) = 1 := rfl
    clear e1
    go_wp2_with fail
    go_ret
    exact ⟨ret_int HS.out.symm, k2⟩

set_option maxHeartbeats 1000000 in
set_option maxRecDepth 100000 in
theorem refValidFraction_any (A : Option Addr) (ca : Nat) (a : List Nat) (Bd : Option Addr) (cb : Nat) (b : List Nat) (w : World) {na nb : Nat} (hna : a.length = na) (hnb : b.length = nb) (ha : NR w A ca a) (hb : NR w Bd cb b) :
    Calls Try.prog 90 #[.agg #[.slice A na ca, .slice Bd nb cb]] w fun e w' => e = .returned (.bool (vfB a b)) ∧ Below w.heap.size w w' := by
  have Ha := Lib.hid hna
  have Hb := Lib.hid hnb
  obtain ⟨W0, hW0⟩ : ∃ W : World, W = w.alloc (.cells #[.slice A na ca, .slice Bd nb cb] 54) := ⟨_, rfl⟩
  have b0 : Below w.heap.size w W0 := by rw [hW0]; exact alloc_below _ _
  have x0 : Bx W0 w.heap.size (.slice A na ca) (.slice Bd nb cb) := by rw [hW0]; exact Bx.new _ _ _
  have Ra0 := Lib.hid (ha.below b0)
  have Rb0 := Lib.hid (hb.below b0)
  have HW0 := Lib.hid hW0
  have x1 := x0
  rw [hW0] at x1
  obtain ⟨c0, c1, _, _⟩ := x1.cells
  have lbi : (nb : Int) ≤ 35184372088832 := by have := hb.len; omega
  clear hna hnb ha hb hW0 x1
  cases hva : validB a with
  | false =>
    have HV := Lib.hid hva
    have HS : Hid (vfB a b = false) := by unfold Hid vfB bothB; rw [hva]; simp
    clear hva
    go_enter Try.func90, Try.ntmps90
    go_wp2_with fail
    rw [← HW0.out]
    refine (refValid_any A ca a _ Ha.out Ra0.out).mono ?_
    rintro e w1 ⟨rfl, rfl⟩
    rw [HV.out]
    go_wp2_with fail
    go_ret
    exact ⟨ret_bool HS.out.symm, b0⟩
  | true =>
    have HV := Lib.hid hva
    cases hvb : validB b with
    | false =>
      have HV2 := Lib.hid hvb
      have HS : Hid (vfB a b = false) := by unfold Hid vfB bothB; rw [hvb]; simp
      obtain ⟨d0, d1, _, _⟩ := x0.cells
      clear hva hvb
      go_enter Try.func90, Try.ntmps90
      go_wp2_with fail
      rw [← HW0.out]
      refine (refValid_any A ca a _ Ha.out Ra0.out).mono ?_
      rintro e w1 ⟨rfl, rfl⟩
      rw [HV.out]
      go_wp2_with fail
      refine (refValid_any Bd cb b _ Hb.out Rb0.out).mono ?_
      rintro e w1 ⟨rfl, rfl⟩
      rw [HV2.out]
      go_wp2_with fail
      go_ret
      exact ⟨ret_bool HS.out.symm, b0⟩
    | true =>
      have HV2 := Lib.hid hvb
      obtain ⟨v1, v2⟩ := validB_iff.1 hva
      obtain ⟨v3, v4⟩ := validB_iff.1 hvb
      have L1 : na ≤ 16 := by have := Ha.out; omega
      have L2 : nb ≤ 16 := by have := Hb.out; omega
      have T1 := Lib.hid v2
      have T2 := Lib.hid v4
      obtain ⟨d0, d1, _, _⟩ := x0.cells
      by_cases h0 : b = []
      · have HS : Hid (vfB a b = false) := by unfold Hid vfB; rw [h0]; simp
        have hz : decide ((0 : Int) < nb) = false := by have := Hb.out; rw [h0] at this; simp at this; simp; omega
        have hz' : decide (0 < nb) = false := by have := Hb.out; rw [h0] at this; simp at this; simp; omega
        clear hva hvb v1 v2 v3 v4 h0
        go_enter Try.func90, Try.ntmps90
        go_wp2_with fail
        rw [← HW0.out]
        refine (refValid_any A ca a _ Ha.out Ra0.out).mono ?_
        rintro e w1 ⟨rfl, rfl⟩
        rw [HV.out]
        go_wp2_with fail
        refine (refValid_any Bd cb b _ Hb.out Rb0.out).mono ?_
        rintro e w1 ⟨rfl, rfl⟩
        rw [HV2.out]
        go_wp2_with fail
        go_ret
        exact ⟨ret_bool HS.out.symm, b0⟩
      · have HS : Hid (vfB a b = sameB (digs (gcdN (val a) (val b))) (digs 1)) := by
          unfold Hid vfB bothB sameB
          rw [hva, hvb, show digs 1 = [1] from digs_one_iff.2 rfl]
          simp [h0, digs_one_iff]
        have hz : decide ((0 : Int) < nb) = true := by have := Hb.out; have h : 0 < b.length := List.length_pos_iff.2 h0; simp; omega
        have hz' : decide (0 < nb) = true := by have := Hb.out; have h : 0 < b.length := List.length_pos_iff.2 h0; simp; omega
        clear hva hvb v1 v2 v3 v4 h0
        go_enter Try.func90, Try.ntmps90
        go_wp2_with fail
        rw [← HW0.out]
        refine (refValid_any A ca a _ Ha.out Ra0.out).mono ?_
        rintro e w1 ⟨rfl, rfl⟩
        rw [HV.out]
        go_wp2_with fail
        refine (refValid_any Bd cb b _ Hb.out Rb0.out).mono ?_
        rintro e w1 ⟨rfl, rfl⟩
        rw [HV2.out]
        go_wp2_with fail
        refine (refCommon_any A ca a Bd cb b _ Ha.out Hb.out Ra0.out Rb0.out T1.out T2.out (by omega) (by omega)).mono ?_
        rintro e w2 ⟨G, cg, rfl, hG, hb2⟩
        have k2 := b0.trans (hb2.mono b0.size)
        have HGR := Lib.hid hG.1
        clear hG hb2 c0 c1 d0 d1
        go_wp2_with fail
        refine (refOf_any 1 _ (by omega)).mono ?_
        rintro e w3 ⟨O, co, rfl, hO, hb3⟩
        have k3 := k2.trans (hb3.mono k2.size)
        go_wp2_with fail
        refine (Same_any G cg _ O co (digs 1) _ rfl rfl (HGR.out.below hb3) hO.1).mono ?_
        rintro e w4 ⟨rfl, hb4⟩
        rw [← HS.out]
        have k4 := k3.trans (hb4.mono k3.size)
        clear hO hb3 hb4
        go_wp2_with fail
        go_ret
        exact ⟨rfl, k4⟩

set_option maxHeartbeats 400000 in
theorem refCheckFraction_any (A : Option Addr) (ca : Nat) (a : List Nat) (Bd : Option Addr) (cb : Nat) (b : List Nat) (w : World) {na nb : Nat} (hna : a.length = na) (hnb : b.length = nb) (ha : NR w A ca a) (hb : NR w Bd cb b) :
    Calls Try.prog 39 #[.agg #[.slice A na ca, .slice Bd nb cb]] w fun e w' => e = .returned (.int .i64 (cfS a b)) ∧ Below w.heap.size w w' := by
  have Ha := Lib.hid hna
  have Hb := Lib.hid hnb
  have b0 := alloc_below w (.cells #[.slice A na ca, .slice Bd nb cb] 54)
  obtain ⟨c0, c1, _, _⟩ := (Bx.new w (.slice A na ca) (.slice Bd nb cb)).cells
  have Ra0 := Lib.hid (ha.below b0)
  have Rb0 := Lib.hid (hb.below b0)
  have HC : Hid (cfS a b = if vfB a b = true then 0 else 8) := rfl
  clear hna hnb ha hb
  rcases (by cases vfB a b <;> simp : vfB a b = true ∨ vfB a b = false) with h | h
  all_goals
    have HV := Lib.hid h
    rw [h] at HC
    clear h
    go_enter Try.func39, Try.ntmps39
    go_wp2_with fail
    refine (refValidFraction_any A ca a Bd cb b _ Ha.out Hb.out Ra0.out Rb0.out).mono ?_
    rintro e w1 ⟨rfl, b1⟩
    rw [HV.out]
    go_wp2_with fail
    go_ret
    exact ⟨by rw [HC.out]; rfl, b0.trans (b1.mono b0.size)⟩
end Go.Proofs.Ytphaojdfeojpeaa
