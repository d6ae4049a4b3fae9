/-
  Fractions in lowest terms; the small helpers of the laws.
-/
import Derived.Test.YtphaojdfeojpeaaNatSame
namespace Go.Proofs.Ytphaojdfeojpeaa
open Go.RowKit
set_option linter.unusedVariables false

theorem gcdN_pos_right {x y : Nat} (h : y ≠ 0) : gcdN x y ≠ 0 := by
  intro e
  have := Nat.gcd_pos_of_pos_right x (Nat.pos_of_ne_zero h)
  unfold gcdN at e
  omega
theorem gcdN_le {x y : Nat} (h : y ≠ 0) : gcdN x y ≤ y := Nat.gcd_le_right x (Nat.pos_of_ne_zero h)
/-- The fraction in lowest terms. -/
def lowS (x y : Nat) : List Nat × List Nat := (digs (x / gcdN x y), digs (y / gcdN x y))
def ratS (a b : List Nat) : (List Nat × List Nat) × Int := if bothB a b = true then (if b = [] then (([], []), 10) else (lowS (val a) (val b), 0)) else (([], []), 8)
/-- The value of a fraction. -/
def fracV (X : Option Addr) (n c : Nat) (Y : Option Addr) (m d : Nat) : Value := .agg #[.slice X n c, .slice Y m d]
/-- A fraction in new memory. -/
def FracNew (w w' : World) (v : Value) (r : List Nat × List Nat) : Prop :=
  ∃ X c Y d, v = .agg #[.slice X r.1.length c, .slice Y r.2.length d] ∧ NF w.heap.size w' X c r.1 ∧ NF w.heap.size w' Y d r.2 ∧ Apart X r.1 Y r.2 ∧ Below w.heap.size w w'
theorem FracNew.zero {w w' : World} (hb : Below w.heap.size w w') : FracNew w w' (.agg #[.slice none 0 0, .slice none 0 0]) ([], []) := ⟨none, 0, none, 0, rfl, NF.nil _ _, NF.nil _ _, fun h => absurd rfl h, hb⟩
theorem FracNew.mono {w w1 w2 : World} {v : Value} {r : List Nat × List Nat} (h : FracNew w1 w2 v r) (k : Below w.heap.size w w1) : FracNew w w2 v r := by
  obtain ⟨X, c, Y, d, rfl, h1, h2, h3, h4⟩ := h
  exact ⟨X, c, Y, d, rfl, h1.mono k.size, h2.mono k.size, h3, k.trans (h4.mono k.size)⟩
theorem FracNew.below {w w1 w2 : World} {v : Value} {r : List Nat × List Nat} (h : FracNew w w1 v r) (k : Below w1.heap.size w1 w2) : FracNew w w2 v r := by
  obtain ⟨X, c, Y, d, rfl, h1, h2, h3, h4⟩ := h
  exact ⟨X, c, Y, d, rfl, h1.below k, h2.below k, h3, h4.trans (k.mono h4.size)⟩

/-- A block of two cells: a fraction of the call's own. -/
def Bx (w : World) (g : Nat) (u v : Value) : Prop := w.heap[g]? = some (.cells #[u, v] 54 (0, 0))
theorem Bx.new (w : World) (u v : Value) : Bx (w.alloc (.cells #[u, v] 54)) w.heap.size u v := heap_alloc_new _ _
theorem Bx.lt {w : World} {g : Nat} {u v : Value} (h : Bx w g u v) : g < w.heap.size := (Array.getElem?_eq_some_iff.1 h).1
theorem Bx.below {w w' : World} {g : Nat} {u v : Value} (h : Bx w g u v) (k : Below w.heap.size w w') : Bx w' g u v := (k.block g h.lt).trans h
theorem Bx.cells {w : World} {g : Nat} {u v : Value} (h : Bx w g u v) : w.cell? ⟨g, 0, none⟩ = some u ∧ w.cell? ⟨g, 1, none⟩ = some v ∧ w.frozen? ⟨g, 0, none⟩ = false ∧ w.frozen? ⟨g, 1, none⟩ = false := by
  have h1 : w.heap[g]? = _ := h
  exact ⟨by simp [World.cell?, h1], by simp [World.cell?, h1], by simp [World.frozen?, h1], by simp [World.frozen?, h1]⟩

set_option maxHeartbeats 1000000 in
set_option maxRecDepth 100000 in
theorem lowest_any (A : Option Addr) (ca : Nat) (a : List Nat) (Bd : Option Addr) (cb : Nat) (b : List Nat) (w : World) {na nb : Nat} (hna : a.length = na) (hnb : b.length = nb) (ha : NR w A ca a) (hb : NR w Bd cb b) (ta : Trm a) (tb : Trm b) (hne : b ≠ []) (la : na ≤ 1048000) (lb : nb ≤ 1048000) :
    Calls Try.prog 87 #[.slice A na ca, .slice Bd nb cb] w fun e w' => ∃ v, e = .returned v ∧ FracNew w w' v (lowS (val a) (val b)) := by
  have Ha := Lib.hid hna
  have Hb := Lib.hid hnb
  have Ra := Lib.hid ha
  have Rb := Lib.hid hb
  have vb : val b ≠ 0 := by have := val_pos tb hne; omega
  obtain ⟨g, hg⟩ : ∃ g, gcdN (val a) (val b) = g := ⟨_, rfl⟩
  have hg0 : g ≠ 0 := by rw [← hg]; exact gcdN_pos_right vb
  have hgl : Hid ((digs g).length ≤ 1048000) := by
    have h1 := digs_len_mono (gcdN_le (x := val a) vb)
    rw [hg, digs_val hb.dig tb, hnb] at h1
    exact Nat.le_trans h1 lb
  have HG := Lib.hid hg
  have HN : Hid (digs g ≠ []) := digs_ne hg0
  have HL : Hid (lowS (val a) (val b) = (digs (val a / g), digs (val b / g))) := by unfold Hid lowS; rw [hg]
  have e0 : ∀ v, (w.alloc (.cells #[v, .slice none 0 0] 54)) = (w.alloc (.cells #[v, .slice none 0 0] 54)) := fun _ => rfl
  have b0 := alloc_below w (.cells #[.slice none 0 0, .slice none 0 0] 54)
  clear hna hnb ha hb vb hg hg0 e0
  go_enter Try.func87, Try.ntmps87
  go_wp2_with fail
  refine (common_any A ca a Bd cb b _ Ha.out Hb.out (Ra.out.below b0) (Rb.out.below b0) ta tb la lb).mono ?_
  rintro e w1 ⟨G, cg, rfl, hG, b1⟩
  rw [HG.out] at hG ⊢
  go_wp2_with fail
  refine (parted_any A ca a G cg (digs g) _ Ha.out rfl ((Ra.out.below b0).below b1) hG.1 ta (Trm.digs _) HN.out la hgl.out).mono ?_
  rintro e w2 ⟨Q, cq, R, cr, rfl, hQ, hR, hap, b2⟩
  rw [val_digs] at hQ hR ⊢
  go_wp2_with fail
  refine (parted_any Bd cb b G cg (digs g) _ Hb.out rfl (((Rb.out.below b0).below b1).below b2) (hG.1.below b2) tb (Trm.digs _) HN.out lb hgl.out).mono ?_
  rintro e w3 ⟨Q2, cq2, R2, cr2, rfl, hQ2, hR2, hap2, b3⟩
  rw [val_digs] at hQ2 hR2 ⊢
  have k1 : Below w.heap.size w w1 := b0.trans (b1.mono b0.size)
  have k2 := k1.trans (b2.mono k1.size)
  have k3 := k2.trans (b3.mono k2.size)
  obtain ⟨c0, c1, f0, f1⟩ := ((((Bx.new w (.slice none 0 0) (.slice none 0 0)).below b1).below b2).below b3).cells
  have z1 : w.heap.size + 1 ≤ w1.heap.size := by have := b1.size; simpa using this
  have HQ : Hid (NF (w.heap.size + 1) w3 Q cq (digs (val a / g))) := (hQ.below b3).mono z1
  have HQ2 : Hid (NF (w.heap.size + 1) w3 Q2 cq2 (digs (val b / g))) := hQ2.mono (Nat.le_trans z1 b2.size)
  have HAP : Hid (Apart Q (digs (val a / g)) Q2 (digs (val b / g))) := fun n1 n2 g1 o1 g2 o2 x1 x2 => by
    obtain ⟨b1', o1', e1', h1', _⟩ := hQ.1.2.2.2 n1
    obtain ⟨b2', o2', e2', h2', _⟩ := hQ2.2 n2
    rw [x1] at e1'
    rw [x2] at e2'
    injection e1' with e1'
    injection e1' with e1'
    injection e2' with e2'
    injection e2' with e2'
    omega
  clear hQ hQ2 hR hR2 hap hap2 hG b0 b1 b2 b3 k1 k2 z1
  go_wp2_with fail
  have nq := ((HQ.out.far (p := ⟨w.heap.size, 0, none⟩) (Nat.lt_succ_self _) (.slice Q (digs (val a / g)).length cq)).far (p := ⟨w.heap.size, 1, none⟩) (Nat.lt_succ_self _) (.slice Q2 (digs (val b / g)).length cq2)).mono (Nat.le_succ w.heap.size)
  have nq2 := ((HQ2.out.far (p := ⟨w.heap.size, 0, none⟩) (Nat.lt_succ_self _) (.slice Q (digs (val a / g)).length cq)).far (p := ⟨w.heap.size, 1, none⟩) (Nat.lt_succ_self _) (.slice Q2 (digs (val b / g)).length cq2)).mono (Nat.le_succ w.heap.size)
  refine bodyPost_ret (v := .agg #[.slice Q (digs (val a / g)).length cq, .slice Q2 (digs (val b / g)).length cq2]) (by simp [results, Try.f87, go_sem, c0, c1]) rfl ⟨_, rfl, ?_⟩
  rw [HL.out]
  exact ⟨Q, cq, Q2, cq2, rfl, nq, nq2, HAP.out, (k3.setCell (p := ⟨w.heap.size, 0, none⟩) (Nat.le_refl _) _).setCell (p := ⟨w.heap.size, 1, none⟩) (Nat.le_refl _) _⟩
/-! ### printed -/

set_option maxHeartbeats 1000000 in
set_option maxRecDepth 100000 in
theorem refLowest_any (A : Option Addr) (ca : Nat) (a : List Nat) (Bd : Option Addr) (cb : Nat) (b : List Nat) (w : World) {na nb : Nat} (hna : a.length = na) (hnb : b.length = nb) (ha : NR w A ca a) (hb : NR w Bd cb b) (ta : Trm a) (tb : Trm b) (hne : b ≠ []) (la : na ≤ 1048000) (lb : nb ≤ 1048000) :
    Calls Try.prog 88 #[.slice A na ca, .slice Bd nb cb] w fun e w' => ∃ v, e = .returned v ∧ FracNew w w' v (lowS (val a) (val b)) := by
  have Ha := Lib.hid hna
  have Hb := Lib.hid hnb
  have Ra := Lib.hid ha
  have Rb := Lib.hid hb
  have vb : val b ≠ 0 := by have := val_pos tb hne; omega
  obtain ⟨g, hg⟩ : ∃ g, gcdN (val a) (val b) = g := ⟨_, rfl⟩
  have hg0 : g ≠ 0 := by rw [← hg]; exact gcdN_pos_right vb
  have hgl : Hid ((digs g).length ≤ 1048000) := by
    have h1 := digs_len_mono (gcdN_le (x := val a) vb)
    rw [hg, digs_val hb.dig tb, hnb] at h1
    exact Nat.le_trans h1 lb
  have HG := Lib.hid hg
  have HN : Hid (digs g ≠ []) := digs_ne hg0
  have HL : Hid (lowS (val a) (val b) = (digs (val a / g), digs (val b / g))) := by unfold Hid lowS; rw [hg]
  have e0 : ∀ v, (w.alloc (.cells #[v, .slice none 0 0] 54)) = (w.alloc (.cells #[v, .slice none 0 0] 54)) := fun _ => rfl
  have b0 := alloc_below w (.cells #[.slice none 0 0, .slice none 0 0] 54)
  clear hna hnb ha hb vb hg hg0 e0
  go_enter Try.func88, Try.ntmps88
  go_wp2_with fail
  refine (refCommon_any A ca a Bd cb b _ Ha.out Hb.out (Ra.out.below b0) (Rb.out.below b0) ta tb la lb).mono ?_
  rintro e w1 ⟨G, cg, rfl, hG, b1⟩
  rw [HG.out] at hG ⊢
  go_wp2_with fail
  refine (refParted_any A ca a G cg (digs g) _ Ha.out rfl ((Ra.out.below b0).below b1) hG.1 (Trm.digs _) HN.out la hgl.out).mono ?_
  rintro e w2 ⟨Q, cq, R, cr, rfl, hQ, hR, hap, b2⟩
  rw [val_digs] at hQ hR ⊢
  go_wp2_with fail
  refine (refParted_any Bd cb b G cg (digs g) _ Hb.out rfl (((Rb.out.below b0).below b1).below b2) (hG.1.below b2) (Trm.digs _) HN.out lb hgl.out).mono ?_
  rintro e w3 ⟨Q2, cq2, R2, cr2, rfl, hQ2, hR2, hap2, b3⟩
  rw [val_digs] at hQ2 hR2 ⊢
  have k1 : Below w.heap.size w w1 := b0.trans (b1.mono b0.size)
  have k2 := k1.trans (b2.mono k1.size)
  have k3 := k2.trans (b3.mono k2.size)
  obtain ⟨c0, c1, f0, f1⟩ := ((((Bx.new w (.slice none 0 0) (.slice none 0 0)).below b1).below b2).below b3).cells
  have z1 : w.heap.size + 1 ≤ w1.heap.size := by have := b1.size; simpa using this
  have HQ : Hid (NF (w.heap.size + 1) w3 Q cq (digs (val a / g))) := (hQ.below b3).mono z1
  have HQ2 : Hid (NF (w.heap.size + 1) w3 Q2 cq2 (digs (val b / g))) := hQ2.mono (Nat.le_trans z1 b2.size)
  have HAP : Hid (Apart Q (digs (val a / g)) Q2 (digs (val b / g))) := fun n1 n2 g1 o1 g2 o2 x1 x2 => by
    obtain ⟨b1', o1', e1', h1', _⟩ := hQ.1.2.2.2 n1
    obtain ⟨b2', o2', e2', h2', _⟩ := hQ2.2 n2
    rw [x1] at e1'
    rw [x2] at e2'
    injection e1' with e1'
    injection e1' with e1'
    injection e2' with e2'
    injection e2' with e2'
    omega
  clear hQ hQ2 hR hR2 hap hap2 hG b0 b1 b2 b3 k1 k2 z1
  go_wp2_with fail
  have nq := ((HQ.out.far (p := ⟨w.heap.size, 0, none⟩) (Nat.lt_succ_self _) (.slice Q (digs (val a / g)).length cq)).far (p := ⟨w.heap.size, 1, none⟩) (Nat.lt_succ_self _) (.slice Q2 (digs (val b / g)).length cq2)).mono (Nat.le_succ w.heap.size)
  have nq2 := ((HQ2.out.far (p := ⟨w.heap.size, 0, none⟩) (Nat.lt_succ_self _) (.slice Q (digs (val a / g)).length cq)).far (p := ⟨w.heap.size, 1, none⟩) (Nat.lt_succ_self _) (.slice Q2 (digs (val b / g)).length cq2)).mono (Nat.le_succ w.heap.size)
  refine bodyPost_ret (v := .agg #[.slice Q (digs (val a / g)).length cq, .slice Q2 (digs (val b / g)).length cq2]) (by simp [results, Try.f88, go_sem, c0, c1]) rfl ⟨_, rfl, ?_⟩
  rw [HL.out]
  exact ⟨Q, cq, Q2, cq2, rfl, nq, nq2, HAP.out, (k3.setCell (p := ⟨w.heap.size, 0, none⟩) (Nat.le_refl _) _).setCell (p := ⟨w.heap.size, 1, none⟩) (Nat.le_refl _) _⟩

/-- A fraction in new memory and an error. -/
def Frac2 (w w' : World) (e : Ending) (r : (List Nat × List Nat) × Int) : Prop := ∃ v, e = .returned (.tuple #[v, .int .i64 r.2]) ∧ FracNew w w' v r.1
theorem Frac2.mk' {w w' : World} {r : (List Nat × List Nat) × Int} {l : List Nat × List Nat} {x : Int} {v : Value} (h : r = (l, x)) (hf : FracNew w w' v l) : Frac2 w w' (.returned (.tuple #[v, .int .i64 x])) r := by
  subst h
  exact ⟨v, rfl, hf⟩
theorem fracNew_store {w w3 : World} {g : Nat} {X Y : Option Addr} {c d : Nat} {l m : List Nat} (hX : NF (g + 1) w3 X c l) (hY : NF (g + 1) w3 Y d m) (ap : Apart X l Y m) (hg : w.heap.size ≤ g) (hb : Below w.heap.size w w3) (u v : Value) :
    FracNew w ((w3.setCell ⟨g, 0, none⟩ u).setCell ⟨g, 1, none⟩ v) (.agg #[.slice X l.length c, .slice Y m.length d]) (l, m) :=
  ⟨X, c, Y, d, rfl, ((hX.far (p := ⟨g, 0, none⟩) (Nat.lt_succ_self _) u).far (p := ⟨g, 1, none⟩) (Nat.lt_succ_self _) v).mono (by omega), ((hY.far (p := ⟨g, 0, none⟩) (Nat.lt_succ_self _) u).far (p := ⟨g, 1, none⟩) (Nat.lt_succ_self _) v).mono (by omega), ap,
    (hb.setCell (p := ⟨g, 0, none⟩) hg _).setCell (p := ⟨g, 1, none⟩) hg _⟩

set_option maxHeartbeats 1000000 in
set_option maxRecDepth 100000 in
theorem Ratio_any (A : Option Addr) (ca : Nat) (a : List Nat) (Bd : Option Addr) (cb : Nat) (b : List Nat) (w : World) {na nb : Nat} (hna : a.length = na) (hnb : b.length = nb) (ha : NR w A ca a) (hb : NR w Bd cb b) :
    Calls Try.prog 35 #[.slice A na ca, .slice Bd nb cb] w fun e w' => Frac2 w w' e (ratS a b) := by
  have Ha := Lib.hid hna
  have Hb := Lib.hid hnb
  have Ra := Lib.hid ha
  have Rb := Lib.hid hb
  have b0 := alloc_below w (.cells #[.slice none 0 0, .slice none 0 0] 54)
  obtain ⟨W0, hW0⟩ : ∃ W : World, W = w.alloc (.cells #[.slice none 0 0, .slice none 0 0] 54) := ⟨_, rfl⟩
  have x0 := Bx.new w (.slice none 0 0) (.slice none 0 0)
  have z0 : w.heap.size + 1 ≤ W0.heap.size := by rw [hW0]; simp
  rw [← hW0] at b0 x0
  have Ra0 := Lib.hid (ha.below b0)
  have Rb0 := Lib.hid (hb.below b0)
  have HX0 := Lib.hid x0
  have HW0 := Lib.hid hW0
  have HZ0 : Hid (W0.heap.size = w.heap.size + 1) := by unfold Hid; rw [hW0]; simp
  rcases bothB_ways a b with ⟨h1, h3⟩ | ⟨h1, h2, h3⟩ | ⟨h1, h2, h3⟩
  · have H1 := Lib.hid h1
    have H3 := Lib.hid h3
    have HS : Hid (ratS a b = (([], []), 8)) := by unfold Hid ratS; rw [h3]; rfl
    obtain ⟨c0, c1, f0, f1⟩ := (x0.below (alloc_below W0 (.cells #[.slice A na ca, .slice Bd nb cb] 41))).cells
    have bF : Below w.heap.size w (W0.alloc (.cells #[.slice A na ca, .slice Bd nb cb] 41)) := b0.alloc b0.size _
    clear hna hnb ha hb h1 h3 hW0 x0
    go_enter Try.func35, Try.ntmps35
    go_wp2_with fail
    rw [← HW0.out, ← HZ0.out]
    refine (valid_two A ca a Bd cb b W0 Ha.out Hb.out Ra0.out Rb0.out _).mono ?_
    rintro e w1 ⟨rfl, rfl⟩
    rw [show (validB a && validB b) = false from H3.out]
    go_wp2_with fail
    exact bodyPost_ret (v := .tuple #[.agg #[.slice none 0 0, .slice none 0 0], .int .i64 8]) (by simp [results, Try.f35, go_sem, c0, c1]) rfl (Frac2.mk' HS.out (FracNew.zero ((bF.setCell (p := ⟨w.heap.size, 0, none⟩) (Nat.le_refl _) _).setCell (p := ⟨w.heap.size, 1, none⟩) (Nat.le_refl _) _)))
  · have H1 := Lib.hid h1
    have H3 := Lib.hid h3
    have H2 := Lib.hid h2
    have HS : Hid (ratS a b = (([], []), 8)) := by unfold Hid ratS; rw [h3]; rfl
    obtain ⟨c0, c1, f0, f1⟩ := (x0.below (alloc_below W0 (.cells #[.slice A na ca, .slice Bd nb cb] 41))).cells
    have bF : Below w.heap.size w (W0.alloc (.cells #[.slice A na ca, .slice Bd nb cb] 41)) := b0.alloc b0.size _
    clear hna hnb ha hb h1 h3 hW0 x0 h2
    go_enter Try.func35, Try.ntmps35
    go_wp2_with fail
    rw [← HW0.out, ← HZ0.out]
    refine (valid_two A ca a Bd cb b W0 Ha.out Hb.out Ra0.out Rb0.out _).mono ?_
    rintro e w1 ⟨rfl, rfl⟩
    rw [show (validB a && validB b) = false from H3.out]
    go_wp2_with fail
    exact bodyPost_ret (v := .tuple #[.agg #[.slice none 0 0, .slice none 0 0], .int .i64 8]) (by simp [results, Try.f35, go_sem, c0, c1]) rfl (Frac2.mk' HS.out (FracNew.zero ((bF.setCell (p := ⟨w.heap.size, 0, none⟩) (Nat.le_refl _) _).setCell (p := ⟨w.heap.size, 1, none⟩) (Nat.le_refl _) _)))
  · have H1 := Lib.hid h1
    have H3 := Lib.hid h3
    have H2 := Lib.hid h2
    obtain ⟨v1, v2⟩ := validB_iff.1 h1
    obtain ⟨v3, v4⟩ := validB_iff.1 h2
    have L1 : na ≤ 16 := by omega
    have L2 : nb ≤ 16 := by omega
    have T1 := Lib.hid v2
    have T2 := Lib.hid v4
    by_cases hne : b = []
    · have HS : Hid (ratS a b = (([], []), 10)) := by unfold Hid ratS; rw [H3.out, if_pos rfl, if_pos hne]
      have hz : ((nb : Int) == 0) = true := by have := Hb.out; rw [hne] at this; simp at this; simp; omega
      have hz' : (nb == 0) = true := by have := Hb.out; rw [hne] at this; simp at this; simp; omega
      obtain ⟨c0, c1, f0, f1⟩ := (x0.below (alloc_below W0 (.cells #[.slice A na ca, .slice Bd nb cb] 41))).cells
      have bF : Below w.heap.size w (W0.alloc (.cells #[.slice A na ca, .slice Bd nb cb] 41)) := b0.alloc b0.size _
      clear hna hnb ha hb h1 h2 h3 hW0 x0 hne v1 v2 v3 v4
      go_enter Try.func35, Try.ntmps35
      go_wp2_with fail
      rw [← HW0.out, ← HZ0.out]
      refine (valid_two A ca a Bd cb b W0 Ha.out Hb.out Ra0.out Rb0.out _).mono ?_
      rintro e w1 ⟨rfl, rfl⟩
      rw [show (validB a && validB b) = true from H3.out]
      go_wp2_with fail
      exact bodyPost_ret (v := .tuple #[.agg #[.slice none 0 0, .slice none 0 0], .int .i64 10]) (by simp [results, Try.f35, go_sem, c0, c1]) rfl (Frac2.mk' HS.out (FracNew.zero ((bF.setCell (p := ⟨w.heap.size, 0, none⟩) (Nat.le_refl _) _).setCell (p := ⟨w.heap.size, 1, none⟩) (Nat.le_refl _) _)))
    · have HS : Hid (ratS a b = (lowS (val a) (val b), 0)) := by unfold Hid ratS; rw [H3.out, if_pos rfl, if_neg hne]
      have HN := Lib.hid hne
      have hz : ((nb : Int) == 0) = false := by have := Hb.out; have h : 0 < b.length := List.length_pos_iff.2 hne; simp; omega
      have hz' : (nb == 0) = false := by have := Hb.out; have h : 0 < b.length := List.length_pos_iff.2 hne; simp; omega
      have xF := x0.below (alloc_below W0 (.cells #[.slice A na ca, .slice Bd nb cb] 41))
      have bF : Below w.heap.size w (W0.alloc (.cells #[.slice A na ca, .slice Bd nb cb] 41)) := b0.alloc b0.size _
      have RaF := Lib.hid (Ra0.out.alloc (.cells #[.slice A na ca, .slice Bd nb cb] 41))
      have RbF := Lib.hid (Rb0.out.alloc (.cells #[.slice A na ca, .slice Bd nb cb] 41))
      have XF := Lib.hid xF
      clear hna hnb ha hb h1 h2 h3 hW0 x0 hne v1 v2 v3 v4 xF
      go_enter Try.func35, Try.ntmps35
      go_wp2_with fail
      rw [← HW0.out, ← HZ0.out]
      refine (valid_two A ca a Bd cb b W0 Ha.out Hb.out Ra0.out Rb0.out _).mono ?_
      rintro e w1 ⟨rfl, rfl⟩
      rw [show (validB a && validB b) = true from H3.out]
      go_wp2_with fail
      refine (lowest_any A ca a Bd cb b _ Ha.out Hb.out RaF.out RbF.out T1.out T2.out HN.out (by omega) (by omega)).mono ?_
      rintro e w2 ⟨v, rfl, X, c, Y, d, rfl, hX, hY, hap, hb2⟩
      obtain ⟨c0, c1, f0, f1⟩ := (XF.out.below hb2).cells
      have k2 := bF.trans (hb2.mono bF.size)
      have HXN : Hid (NF (w.heap.size + 1) w2 X c (lowS (val a) (val b)).1) := hX.mono (by simp; omega)
      have HYN : Hid (NF (w.heap.size + 1) w2 Y d (lowS (val a) (val b)).2) := hY.mono (by simp; omega)
      have HAP := Lib.hid hap
      clear hX hY hap hb2
      generalize lowS (val a) (val b) = r at *
      go_wp2_with fail
      exact bodyPost_ret (v := .tuple #[.agg #[.slice X r.1.length c, .slice Y r.2.length d], .int .i64 0]) (by simp [results, Try.f35, go_sem, c0, c1]) rfl (Frac2.mk' HS.out (fracNew_store HXN.out HYN.out HAP.out (Nat.le_refl _) k2 _ _))

set_option maxHeartbeats 1000000 in
set_option maxRecDepth 100000 in
theorem refRatio_any (A : Option Addr) (ca : Nat) (a : List Nat) (Bd : Option Addr) (cb : Nat) (b : List Nat) (w : World) {na nb : Nat} (hna : a.length = na) (hnb : b.length = nb) (ha : NR w A ca a) (hb : NR w Bd cb b) :
    Calls Try.prog 36 #[.slice A na ca, .slice Bd nb cb] w fun e w' => Frac2 w w' e (ratS a b) := by
  have Ha := Lib.hid hna
  have Hb := Lib.hid hnb
  have Ra := Lib.hid ha
  have Rb := Lib.hid hb
  have b0 := alloc_below w (.cells #[.slice none 0 0, .slice none 0 0] 54)
  obtain ⟨W0, hW0⟩ : ∃ W : World, W = w.alloc (.cells #[.slice none 0 0, .slice none 0 0] 54) := ⟨_, rfl⟩
  have x0 := Bx.new w (.slice none 0 0) (.slice none 0 0)
  have z0 : w.heap.size + 1 ≤ W0.heap.size := by rw [hW0]; simp
  rw [← hW0] at b0 x0
  have Ra0 := Lib.hid (ha.below b0)
  have Rb0 := Lib.hid (hb.below b0)
  have HX0 := Lib.hid x0
  have HW0 := Lib.hid hW0
  have HZ0 : Hid (W0.heap.size = w.heap.size + 1) := by unfold Hid; rw [hW0]; simp
  rcases bothB_ways a b with ⟨h1, h3⟩ | ⟨h1, h2, h3⟩ | ⟨h1, h2, h3⟩
  · have H1 := Lib.hid h1
    have H3 := Lib.hid h3
    have HS : Hid (ratS a b = (([], []), 8)) := by unfold Hid ratS; rw [h3]; rfl
    obtain ⟨c0, c1, f0, f1⟩ := x0.cells
    have bF : Below w.heap.size w W0 := b0
    clear hna hnb ha hb h1 h3 hW0 x0
    go_enter Try.func36, Try.ntmps36
    go_wp2_with fail
    rw [← HW0.out]
    refine (refValid_any A ca a _ Ha.out Ra0.out).mono ?_
    rintro e w1 ⟨rfl, rfl⟩
    rw [H1.out]
    go_wp2_with fail
    exact bodyPost_ret (v := .tuple #[.agg #[.slice none 0 0, .slice none 0 0], .int .i64 8]) (by simp [results, Try.f36, go_sem, c0, c1]) rfl (Frac2.mk' HS.out (FracNew.zero ((bF.setCell (p := ⟨w.heap.size, 0, none⟩) (Nat.le_refl _) _).setCell (p := ⟨w.heap.size, 1, none⟩) (Nat.le_refl _) _)))
  · have H1 := Lib.hid h1
    have H3 := Lib.hid h3
    have H2 := Lib.hid h2
    have HS : Hid (ratS a b = (([], []), 8)) := by unfold Hid ratS; rw [h3]; rfl
    obtain ⟨c0, c1, f0, f1⟩ := x0.cells
    have bF : Below w.heap.size w W0 := b0
    clear hna hnb ha hb h1 h3 hW0 x0 h2
    go_enter Try.func36, Try.ntmps36
    go_wp2_with fail
    rw [← HW0.out]
    refine (refValid_any A ca a _ Ha.out Ra0.out).mono ?_
    rintro e w1 ⟨rfl, rfl⟩
    rw [H1.out]
    go_wp2_with fail
    refine (refValid_any Bd cb b _ Hb.out Rb0.out).mono ?_
    rintro e w1 ⟨rfl, rfl⟩
    rw [H2.out]
    go_wp2_with fail
    exact bodyPost_ret (v := .tuple #[.agg #[.slice none 0 0, .slice none 0 0], .int .i64 8]) (by simp [results, Try.f36, go_sem, c0, c1]) rfl (Frac2.mk' HS.out (FracNew.zero ((bF.setCell (p := ⟨w.heap.size, 0, none⟩) (Nat.le_refl _) _).setCell (p := ⟨w.heap.size, 1, none⟩) (Nat.le_refl _) _)))
  · have H1 := Lib.hid h1
    have H3 := Lib.hid h3
    have H2 := Lib.hid h2
    obtain ⟨v1, v2⟩ := validB_iff.1 h1
    obtain ⟨v3, v4⟩ := validB_iff.1 h2
    have L1 : na ≤ 16 := by omega
    have L2 : nb ≤ 16 := by omega
    have T1 := Lib.hid v2
    have T2 := Lib.hid v4
    by_cases hne : b = []
    · have HS : Hid (ratS a b = (([], []), 10)) := by unfold Hid ratS; rw [H3.out, if_pos rfl, if_pos hne]
      have hz : ((nb : Int) == 0) = true := by have := Hb.out; rw [hne] at this; simp at this; simp; omega
      have hz' : (nb == 0) = true := by have := Hb.out; rw [hne] at this; simp at this; simp; omega
      obtain ⟨c0, c1, f0, f1⟩ := x0.cells
      have bF : Below w.heap.size w W0 := b0
      clear hna hnb ha hb h1 h2 h3 hW0 x0 hne v1 v2 v3 v4
      go_enter Try.func36, Try.ntmps36
      go_wp2_with fail
      rw [← HW0.out]
      refine (refValid_any A ca a _ Ha.out Ra0.out).mono ?_
      rintro e w1 ⟨rfl, rfl⟩
      rw [H1.out]
      go_wp2_with fail
      refine (refValid_any Bd cb b _ Hb.out Rb0.out).mono ?_
      rintro e w1 ⟨rfl, rfl⟩
      rw [H2.out]
      go_wp2_with fail
      exact bodyPost_ret (v := .tuple #[.agg #[.slice none 0 0, .slice none 0 0], .int .i64 10]) (by simp [results, Try.f36, go_sem, c0, c1]) rfl (Frac2.mk' HS.out (FracNew.zero ((bF.setCell (p := ⟨w.heap.size, 0, none⟩) (Nat.le_refl _) _).setCell (p := ⟨w.heap.size, 1, none⟩) (Nat.le_refl _) _)))
    · have HS : Hid (ratS a b = (lowS (val a) (val b), 0)) := by unfold Hid ratS; rw [H3.out, if_pos rfl, if_neg hne]
      have HN := Lib.hid hne
      have hz : ((nb : Int) == 0) = false := by have := Hb.out; have h : 0 < b.length := List.length_pos_iff.2 hne; simp; omega
      have hz' : (nb == 0) = false := by have := Hb.out; have h : 0 < b.length := List.length_pos_iff.2 hne; simp; omega
      have xF := x0
      have bF : Below w.heap.size w W0 := b0
      have RaF := Ra0
      have RbF := Rb0
      have XF := Lib.hid xF
      clear hna hnb ha hb h1 h2 h3 hW0 x0 hne v1 v2 v3 v4 xF
      go_enter Try.func36, Try.ntmps36
      go_wp2_with fail
      rw [← HW0.out]
      refine (refValid_any A ca a _ Ha.out Ra0.out).mono ?_
      rintro e w1 ⟨rfl, rfl⟩
      rw [H1.out]
      go_wp2_with fail
      refine (refValid_any Bd cb b _ Hb.out Rb0.out).mono ?_
      rintro e w1 ⟨rfl, rfl⟩
      rw [H2.out]
      go_wp2_with fail
      refine (refLowest_any A ca a Bd cb b _ Ha.out Hb.out RaF.out RbF.out T1.out T2.out HN.out (by omega) (by omega)).mono ?_
      rintro e w2 ⟨v, rfl, X, c, Y, d, rfl, hX, hY, hap, hb2⟩
      obtain ⟨c0, c1, f0, f1⟩ := (XF.out.below hb2).cells
      have k2 := bF.trans (hb2.mono bF.size)
      have HXN : Hid (NF (w.heap.size + 1) w2 X c (lowS (val a) (val b)).1) := hX.mono (by omega)
      have HYN : Hid (NF (w.heap.size + 1) w2 Y d (lowS (val a) (val b)).2) := hY.mono (by omega)
      have HAP := Lib.hid hap
      clear hX hY hap hb2
      generalize lowS (val a) (val b) = r at *
      go_wp2_with fail
      exact bodyPost_ret (v := .tuple #[.agg #[.slice X r.1.length c, .slice Y r.2.length d], .int .i64 0]) (by simp [results, Try.f36, go_sem, c0, c1]) rfl (Frac2.mk' HS.out (fracNew_store HXN.out HYN.out HAP.out (Nat.le_refl _) k2 _ _))

set_option maxHeartbeats 1000000 in
set_option maxRecDepth 100000 in
theorem SameFraction_any (A : Option Addr) (ca : Nat) (a : List Nat) (Bd : Option Addr) (cb : Nat) (b : List Nat) (C : Option Addr) (cc : Nat) (c : List Nat) (D : Option Addr) (cd : Nat) (d : List Nat) (w : World) {na nb nc nd : Nat} (hna : a.length = na) (hnb : b.length = nb) (hnc : c.length = nc) (hnd : d.length = nd)
    (ha : NR w A ca a) (hb : NR w Bd cb b) (hc : NR w C cc c) (hd : NR w D cd d) :
    Calls Try.prog 37 #[.agg #[.slice A na ca, .slice Bd nb cb], .agg #[.slice C nc cc, .slice D nd cd]] w fun e w' => e = .returned (.bool (sameB a c && sameB b d)) ∧ Below w.heap.size w w' := by
  have Ha := Lib.hid hna
  have Hb := Lib.hid hnb
  have Hc := Lib.hid hnc
  have Hd := Lib.hid hnd
  obtain ⟨W, hW⟩ : ∃ W : World, W = (w.alloc (.cells #[.slice A na ca, .slice Bd nb cb] 54)).alloc (.cells #[.slice C nc cc, .slice D nd cd] 54) := ⟨_, rfl⟩
  have bW : Below w.heap.size w W := by rw [hW]; exact (alloc_below _ _).alloc (by simp) _
  have xF : Bx W w.heap.size (.slice A na ca) (.slice Bd nb cb) := by rw [hW]; exact (Bx.new _ _ _).below (alloc_below _ _)
  have xG : Bx W (w.heap.size + 1) (.slice C nc cc) (.slice D nd cd) := by
    have := Bx.new (w.alloc (.cells #[.slice A na ca, .slice Bd nb cb] 54)) (.slice C nc cc) (.slice D nd cd)
    rw [World.size_alloc] at this
    rw [hW]; exact this
  have XF := Lib.hid xF
  have XG := Lib.hid xG
  have Ra := Lib.hid (ha.below bW)
  have Rb := Lib.hid (hb.below bW)
  have Rc := Lib.hid (hc.below bW)
  have Rd := Lib.hid (hd.below bW)
  have HW := Lib.hid hW
  clear hna hnb hnc hnd ha hb hc hd hW xF xG
  rcases (by cases sameB a c <;> simp : sameB a c = true ∨ sameB a c = false) with h | h
  · have HE := Lib.hid h
    have HP : Hid ((sameB a c && sameB b d) = sameB b d) := by unfold Hid; rw [h]; rfl
    clear h
    go_enter Try.func37, Try.ntmps37
    go_wp2_with fail
    rw [← HW.out]
    refine (Same_any A ca a C cc c _ Ha.out Hc.out Ra.out Rc.out).mono ?_
    rintro e w1 ⟨rfl, b1⟩
    rw [HE.out]
    obtain ⟨c0, c1, _, _⟩ := (XF.out.below b1).cells
    obtain ⟨g0, g1, _, _⟩ := (XG.out.below b1).cells
    go_wp2_with fail
    refine (Same_any Bd cb b D cd d _ Hb.out Hd.out (Rb.out.below b1) (Rd.out.below b1)).mono ?_
    rintro e w2 ⟨rfl, b2⟩
    have k1 := bW.trans (b1.mono bW.size)
    go_wp2_with fail
    go_ret
    exact ⟨ret_bool HP.out.symm, k1.trans (b2.mono k1.size)⟩
  · have HE := Lib.hid h
    have HP : Hid ((sameB a c && sameB b d) = false) := by unfold Hid; rw [h]; rfl
    clear h
    go_enter Try.func37, Try.ntmps37
    go_wp2_with fail
    rw [← HW.out]
    refine (Same_any A ca a C cc c _ Ha.out Hc.out Ra.out Rc.out).mono ?_
    rintro e w1 ⟨rfl, b1⟩
    rw [HE.out]
    have k1 := bW.trans (b1.mono bW.size)
    go_wp2_with fail
    go_ret
    exact ⟨ret_bool HP.out.symm, k1⟩
end Go.Proofs.Ytphaojdfeojpeaa
