/-
  Lemmas and contracts, joined.
-/
import Derived.Deep.RegionHeld3
import Derived.Test.YtenpkmgbaajeeaaGreatTwCa1
import Derived.Test.YtenpkmgbaajeeaaGreatTwCn4
set_option linter.unusedSimpArgs false
set_option linter.unusedVariables false
set_option linter.unnecessarySimpa false
/- Comparisons, sums and products of fractions: the program's and the reference's. -/
namespace Go.Proofs.YtenpkmgbaajeeaaGreat
open Go.RowKit
set_option linter.unusedVariables false

def bothF (a b c d : List Nat) : Bool := vfB a b && vfB c d
def cmpFS (a b c d : List Nat) : Int × Int := if bothF a b c d = true then (cmpN (val a * val d) (val c * val b), 0) else (0, 8)
theorem bothF_ways (a b c d : List Nat) : (vfB a b = false ∧ bothF a b c d = false) ∨ (vfB a b = true ∧ vfB c d = false ∧ bothF a b c d = false) ∨ (vfB a b = true ∧ vfB c d = true ∧ bothF a b c d = true) := by
  unfold bothF
  cases h : vfB a b
  · exact .inl ⟨rfl, rfl⟩
  · cases h2 : vfB c d
    · exact .inr (.inl ⟨rfl, rfl, rfl⟩)
    · exact .inr (.inr ⟨rfl, rfl, rfl⟩)
theorem vf_parts {a b : List Nat} (h : vfB a b = true) : (a.length ≤ 16 ∧ b.length ≤ 16) ∧ (Trm a ∧ Trm b) ∧ b ≠ [] := by
  rcases vf_ways a b with ⟨_, e⟩ | ⟨_, _, e⟩ | ⟨_, _, _, e⟩ | ⟨h1, h2, _, _⟩
  · rw [e] at h; cases h
  · rw [e] at h; cases h
  · rw [e] at h; cases h
  · obtain ⟨v1, v2⟩ := bothB_parts h1
    obtain ⟨a1, a2⟩ := validB_iff.1 v1
    obtain ⟨b1, b2⟩ := validB_iff.1 v2
    exact ⟨⟨a1, b1⟩, ⟨a2, b2⟩, h2⟩
theorem cfS_yes {a b : List Nat} (h : vfB a b = true) : cfS a b = 0 := by rw [cfS, h]; rfl
theorem cfS_no {a b : List Nat} (h : vfB a b = false) : cfS a b = 8 := by rw [cfS, h]; rfl
theorem times_len {x y : List Nat} {p q : Nat} (hx : Dig x) (hy : Dig y) (lx : x.length ≤ p) (ly : y.length ≤ q) : (digs (val x * val y)).length ≤ p + q := by
  refine digs_len_le ?_
  rw [Nat.pow_add]
  have h1 := Nat.lt_of_lt_of_le (val_lt hx) (Nat.pow_le_pow_right (show 0 < 4294967296 by omega) lx)
  have h2 := Nat.lt_of_lt_of_le (val_lt hy) (Nat.pow_le_pow_right (show 0 < 4294967296 by omega) ly)
  exact Nat.mul_lt_mul'' h1 h2
theorem plus_len {x y p : Nat} (h1 : (digs x).length ≤ p) (h2 : (digs y).length ≤ p) : (digs (x + y)).length ≤ p + 1 := by
  refine digs_len_le ?_
  have := lt_of_digs_len h1
  have := lt_of_digs_len h2
  rw [Nat.pow_succ]
  omega
theorem val_ne_of {b : List Nat} (hb : Trm b) (h : b ≠ []) : val b ≠ 0 := by have := val_pos hb h; omega

/-- Two fractions of the call's own. -/
def Fr2 (W : World) (g : Nat) (u0 u1 v0 v1 : Value) : Prop := Bx W g u0 u1 ∧ Bx W (g + 1) v0 v1
theorem Fr2.below {w w' : World} {g : Nat} {u0 u1 v0 v1 : Value} (h : Fr2 w g u0 u1 v0 v1) (k : Below w.heap.size w w') : Fr2 w' g u0 u1 v0 v1 := ⟨h.1.below k, h.2.below k⟩
theorem Fr2.new (w : World) (u0 u1 v0 v1 : Value) : Fr2 ((w.alloc (.cells #[u0, u1] 27)).alloc (.cells #[v0, v1] 27)) w.heap.size u0 u1 v0 v1 := by
  refine ⟨(Bx.new _ _ _).below (alloc_below _ _), ?_⟩
  have := Bx.new (w.alloc (.cells #[u0, u1] 27)) v0 v1
  rw [World.size_alloc] at this
  exact this
theorem Fr2.cells {w : World} {g : Nat} {u0 u1 v0 v1 : Value} (h : Fr2 w g u0 u1 v0 v1) : w.cell? ⟨g, 0, none⟩ = some u0 ∧ w.cell? ⟨g, 1, none⟩ = some u1 ∧ w.cell? ⟨g + 1, 0, none⟩ = some v0 ∧ w.cell? ⟨g + 1, 1, none⟩ = some v1 := by
  obtain ⟨a, b, _, _⟩ := h.1.cells
  obtain ⟨c, d, _, _⟩ := h.2.cells
  exact ⟨a, b, c, d⟩
theorem Fr2.lt {w : World} {g : Nat} {u0 u1 v0 v1 : Value} (h : Fr2 w g u0 u1 v0 v1) : g + 1 < w.heap.size := h.2.lt

set_option maxHeartbeats 4000000 in
set_option maxRecDepth 100000 in
theorem cross_int_any (A : Option Addr) (ca : Nat) (a : List Nat) (Bd : Option Addr) (cb : Nat) (b : List Nat) (C : Option Addr) (cc : Nat) (c : List Nat) (D : Option Addr) (cd : Nat) (d : List Nat) (w : World) {na nb nc nd : Nat} (hna : a.length = na) (hnb : b.length = nb) (hnc : c.length = nc) (hnd : d.length = nd)
    (ha : NR w A ca a) (hb : NR w Bd cb b) (hc : NR w C cc c) (hd : NR w D cd d) :
    Calls Tryz.prog 104 #[.agg #[.slice A na ca, .slice Bd nb cb], .agg #[.slice C nc cc, .slice D nd cd], .func (.func 105) #[] #[]] w fun e w' => Int2 w w' e (cmpFS a b c d) := by
  have Ha := Lib.hid hna
  have Hb := Lib.hid hnb
  have Hc := Lib.hid hnc
  have Hd := Lib.hid hnd
  obtain ⟨W, hW⟩ : ∃ W : World, W = (w.alloc (.cells #[.slice A na ca, .slice Bd nb cb] 27)).alloc (.cells #[.slice C nc cc, .slice D nd cd] 27) := ⟨_, rfl⟩
  have bW : Below w.heap.size w W := by rw [hW]; exact (alloc_below _ _).alloc (by simp) _
  have xW : Fr2 W w.heap.size (.slice A na ca) (.slice Bd nb cb) (.slice C nc cc) (.slice D nd cd) := by rw [hW]; exact Fr2.new _ _ _ _ _
  have Ra := Lib.hid (ha.below bW)
  have Rb := Lib.hid (hb.below bW)
  have Rc := Lib.hid (hc.below bW)
  have Rd := Lib.hid (hd.below bW)
  have XW := Lib.hid xW
  have HW := Lib.hid hW
  obtain ⟨c0, c1, c2, c3⟩ := xW.cells
  clear hna hnb hnc hnd ha hb hc hd hW xW
  rcases bothF_ways a b c d with ⟨h1, h3⟩ | ⟨h1, h2, h3⟩ | ⟨h1, h2, h3⟩
  · have H1 := Lib.hid h1
    have H3 := Lib.hid h3
    have HS : Hid (cmpFS a b c d = (0, 8)) := by unfold Hid cmpFS; rw [h3]; rfl
    clear h1 h3
    rw [HW.out] at c0 c1 c2 c3
    go_enter Tryz.func104, Tryz.ntmps104
    go_wp2_with fail
    rw [← HW.out]
    clear c0 c1 c2 c3
    refine (CheckFraction_any A ca a Bd cb b _ Ha.out Hb.out Ra.out Rb.out).mono ?_
    rintro e w1 ⟨rfl, b1⟩
    rw [cfS_no H1.out]
    have X1 := Lib.hid (XW.out.below b1)
    have k1 := bW.trans (b1.mono bW.size)
    obtain ⟨d0, d1, d2, d3⟩ := X1.out.cells
    go_wp2_with fail
    go_ret2
    exact Int2.mk' HS.out k1
  · have H1 := Lib.hid h1
    have H3 := Lib.hid h3
    have H2 := Lib.hid h2
    have HS : Hid (cmpFS a b c d = (0, 8)) := by unfold Hid cmpFS; rw [h3]; rfl
    clear h1 h3 h2
    rw [HW.out] at c0 c1 c2 c3
    go_enter Tryz.func104, Tryz.ntmps104
    go_wp2_with fail
    rw [← HW.out]
    clear c0 c1 c2 c3
    refine (CheckFraction_any A ca a Bd cb b _ Ha.out Hb.out Ra.out Rb.out).mono ?_
    rintro e w1 ⟨rfl, b1⟩
    rw [cfS_yes H1.out]
    have X1 := Lib.hid (XW.out.below b1)
    have k1 := bW.trans (b1.mono bW.size)
    obtain ⟨d0, d1, d2, d3⟩ := X1.out.cells
    have Ra1 := Lib.hid (Ra.out.below b1)
    have Rb1 := Lib.hid (Rb.out.below b1)
    have Rc1 := Lib.hid (Rc.out.below b1)
    have Rd1 := Lib.hid (Rd.out.below b1)
    clear b1
    go_wp2_with fail
    refine (CheckFraction_any C cc c D cd d _ Hc.out Hd.out Rc1.out Rd1.out).mono ?_
    rintro e w2 ⟨rfl, b2⟩
    rw [cfS_no H2.out]
    have X2 := Lib.hid (X1.out.below b2)
    have k2 := k1.trans (b2.mono k1.size)
    clear d0 d1 d2 d3
    go_wp2_with fail
    go_ret2
    exact Int2.mk' HS.out k2
  · have H1 := Lib.hid h1
    have H3 := Lib.hid h3
    have H2 := Lib.hid h2
    obtain ⟨⟨l1, l2⟩, ⟨t1, t2⟩, n1⟩ := vf_parts h1
    obtain ⟨⟨l3, l4⟩, ⟨t3, t4⟩, n2⟩ := vf_parts h2
    have L1 : na ≤ 16 := by have := Ha.out; omega
    have L2 : nb ≤ 16 := by have := Hb.out; omega
    have L3 : nc ≤ 16 := by have := Hc.out; omega
    have L4 : nd ≤ 16 := by have := Hd.out; omega
    have M1 : Hid ((digs (val a * val d)).length ≤ 32) := times_len Ra.out.dig Rd.out.dig l1 l4
    have M2 : Hid ((digs (val c * val b)).length ≤ 32) := times_len Rc.out.dig Rb.out.dig l3 l2
    have M3 : Hid ((digs (val b * val d)).length ≤ 32) := times_len Rb.out.dig Rd.out.dig l2 l4
    have M4 : Hid ((digs (val a * val c)).length ≤ 32) := times_len Ra.out.dig Rc.out.dig l1 l3
    have M5 : Hid (digs (val b * val d) ≠ []) := digs_ne (Nat.mul_ne_zero (val_ne_of t2 n1) (val_ne_of t4 n2))
    have M6 : Hid ((digs (val a * val d + val c * val b)).length ≤ 33) := plus_len M1.out M2.out
    have HS : Hid (cmpFS a b c d = (cmpN (val a * val d) (val c * val b), 0)) := by unfold Hid cmpFS; rw [h3]; rfl
    clear l1 l2 l3 l4 t1 t2 t3 t4 n1 n2
    clear h1 h3 h2
    rw [HW.out] at c0 c1 c2 c3
    go_enter Tryz.func104, Tryz.ntmps104
    go_wp2_with fail
    rw [← HW.out]
    clear c0 c1 c2 c3
    refine (CheckFraction_any A ca a Bd cb b _ Ha.out Hb.out Ra.out Rb.out).mono ?_
    rintro e w1 ⟨rfl, b1⟩
    rw [cfS_yes H1.out]
    have X1 := Lib.hid (XW.out.below b1)
    have k1 := bW.trans (b1.mono bW.size)
    obtain ⟨d0, d1, d2, d3⟩ := X1.out.cells
    have Ra1 := Lib.hid (Ra.out.below b1)
    have Rb1 := Lib.hid (Rb.out.below b1)
    have Rc1 := Lib.hid (Rc.out.below b1)
    have Rd1 := Lib.hid (Rd.out.below b1)
    clear b1
    go_wp2_with fail
    refine (CheckFraction_any C cc c D cd d _ Hc.out Hd.out Rc1.out Rd1.out).mono ?_
    rintro e w2 ⟨rfl, b2⟩
    rw [cfS_yes H2.out]
    have X2 := Lib.hid (X1.out.below b2)
    have k2 := k1.trans (b2.mono k1.size)
    clear d0 d1 d2 d3
    have Ra2 := Lib.hid (Ra1.out.below b2)
    have Rb2 := Lib.hid (Rb1.out.below b2)
    have Rc2 := Lib.hid (Rc1.out.below b2)
    have Rd2 := Lib.hid (Rd1.out.below b2)
    clear b2 Ra1 Rb1 Rc1 Rd1 X1
    obtain ⟨e0, e1, e2, e3⟩ := (show Fr2 w2.drew w.heap.size (.slice A na ca) (.slice Bd nb cb) (.slice C nc cc) (.slice D nd cd) from X2.out).cells
    have XD : Hid (Fr2 w2.drew w.heap.size (.slice A na ca) (.slice Bd nb cb) (.slice C nc cc) (.slice D nd cd)) := X2.out
    have kD := k2.drew
    go_wp2_with fail
    go_region_held3 (fun w' => w'.cell? ⟨w.heap.size, 0, none⟩ = some (.slice A na ca) ∧ w'.cell? ⟨w.heap.size, 1, none⟩ = some (.slice Bd nb cb) ∧ w'.cell? ⟨w.heap.size + 1, 0, none⟩ = some (.slice C nc cc) ∧ w'.cell? ⟨w.heap.size + 1, 1, none⟩ = some (.slice D nd cd)) ((first | exact ⟨n0, n1, n2, n3⟩ | exact ⟨m0, m1, m2, m3⟩ | exact ⟨l0, l1, l2, l3⟩ | exact ⟨e0, e1, e2, e3⟩)) (first
      | (go_at_call_of 117 A; go_loud (refine (times_any A ca a D cd d _ Ha.out Hd.out Ra2.out.drew Rd2.out.drew (by omega) (by omega)).mono ?_; rintro e w3 ⟨P, cP, rfl, hP, b3⟩; obtain ⟨l0, l1, l2, l3⟩ := (Fr2.below (XD.out) b3).cells))
      | (go_at_call_of 117 C; go_loud (refine (times_any C cc c Bd cb b _ Hc.out Hb.out (Rc2.out.drew.below b3) (Rb2.out.drew.below b3) (by omega) (by omega)).mono ?_; rintro e w4 ⟨Q, cQ, rfl, hQ, b4⟩; obtain ⟨m0, m1, m2, m3⟩ := (Fr2.below (Fr2.below (XD.out) b3) b4).cells))
      | (go_at_call 105; go_loud (refine (order_any P cP (digs (val a * val d)) Q cQ (digs (val c * val b)) _ rfl rfl (hP.1.below b4) hQ.1 (Trm.digs _) (Trm.digs _)).mono ?_; rintro e w5 ⟨rfl, b5⟩; rw [val_digs, val_digs]; obtain ⟨n0, n1, n2, n3⟩ := (Fr2.below (Fr2.below (Fr2.below (XD.out) b3) b4) b5).cells)))
    all_goals
      have k3 := kD.trans (b3.mono kD.size)
      have k4 := k3.trans (b4.mono k3.size)
      have k5 := k4.trans (b5.mono k4.size)
      go_wp2_with fail
      go_ret2
      exact Int2.mk' HS.out k5

set_option maxHeartbeats 1000000 in
theorem CompareFractions_any (A : Option Addr) (ca : Nat) (a : List Nat) (Bd : Option Addr) (cb : Nat) (b : List Nat) (C : Option Addr) (cc : Nat) (c : List Nat) (D : Option Addr) (cd : Nat) (d : List Nat) (w : World) {na nb nc nd : Nat} (hna : a.length = na) (hnb : b.length = nb) (hnc : c.length = nc) (hnd : d.length = nd)
    (ha : NR w A ca a) (hb : NR w Bd cb b) (hc : NR w C cc c) (hd : NR w D cd d) :
    Calls Tryz.prog 54 #[.agg #[.slice A na ca, .slice Bd nb cb], .agg #[.slice C nc cc, .slice D nd cd]] w fun e w' => Int2 w w' e (cmpFS a b c d) := by
  have Ha := Lib.hid hna
  have Hb := Lib.hid hnb
  have Hc := Lib.hid hnc
  have Hd := Lib.hid hnd
  have bW : Below w.heap.size w ((w.alloc (.cells #[.slice A na ca, .slice Bd nb cb] 27)).alloc (.cells #[.slice C nc cc, .slice D nd cd] 27)) := (alloc_below _ _).alloc (by simp) _
  obtain ⟨c0, c1, c2, c3⟩ := (Fr2.new w (.slice A na ca) (.slice Bd nb cb) (.slice C nc cc) (.slice D nd cd)).cells
  have Ra := Lib.hid (ha.below bW)
  have Rb := Lib.hid (hb.below bW)
  have Rc := Lib.hid (hc.below bW)
  have Rd := Lib.hid (hd.below bW)
  clear hna hnb hnc hnd ha hb hc hd
  go_enter Tryz.func54, Tryz.ntmps54
  go_wp2_with fail
  refine (cross_int_any A ca a Bd cb b C cc c D cd d _ Ha.out Hb.out Hc.out Hd.out Ra.out Rb.out Rc.out Rd.out).mono ?_
  rintro e w1 ⟨rfl, b1⟩
  go_wp2_with fail
  go_ret2
  exact ⟨rfl, bW.trans (b1.mono bW.size)⟩

end Go.Proofs.YtenpkmgbaajeeaaGreat

/- Fractions in lowest terms: compared and added, in plain words. -/
namespace Go.Proofs.YtenpkmgbaajeeaaGreat
open Go.RowKit
set_option linter.unusedVariables false

theorem low_parts (x : Nat) {y : Nat} (hy : y ≠ 0) : ∃ p q g, g ≠ 0 ∧ q ≠ 0 ∧ x = p * g ∧ y = q * g ∧ gcdN p q = 1 ∧ lowS x y = (digs p, digs q) := by
  have hg : Nat.gcd x y ≠ 0 := gcdN_pos_right hy
  have h1 : x / Nat.gcd x y * Nat.gcd x y = x := Nat.div_mul_cancel (Nat.gcd_dvd_left x y)
  have h2 : y / Nat.gcd x y * Nat.gcd x y = y := Nat.div_mul_cancel (Nat.gcd_dvd_right x y)
  refine ⟨x / Nat.gcd x y, y / Nat.gcd x y, Nat.gcd x y, hg, fun e => hy ?_, h1.symm, h2.symm, ?_, rfl⟩
  · rw [← h2, e, Nat.zero_mul]
  · have h3 : Nat.gcd (x / Nat.gcd x y * Nat.gcd x y) (y / Nat.gcd x y * Nat.gcd x y) = Nat.gcd x y := by rw [h1, h2]
    rw [Nat.gcd_mul_right] at h3
    exact Nat.eq_of_mul_eq_mul_right (Nat.pos_of_ne_zero hg) (by rw [Nat.one_mul]; exact h3)
theorem cmpN_scale {x y k : Nat} (hk : k ≠ 0) : cmpN (x * k) (y * k) = cmpN x y := by
  rcases Nat.lt_trichotomy x y with h | h | h
  · rw [cmpN_lt h, cmpN_lt ((Nat.mul_lt_mul_right (Nat.pos_of_ne_zero hk)).2 h)]
  · rw [cmpN_eq h, cmpN_eq (by rw [h])]
  · rw [cmpN_gt h, cmpN_gt ((Nat.mul_lt_mul_right (Nat.pos_of_ne_zero hk)).2 h)]
theorem low_len {a b n : Nat} (h : a ≤ b) (hb : (digs b).length ≤ n) : (digs a).length ≤ n := Nat.le_trans (digs_len_mono h) hb
theorem bothB_yes_ {a b : List Nat} (h1 : validB a = true) (h2 : validB b = true) : bothB a b = true := by unfold bothB; rw [h1, h2]; rfl
theorem vf_low {p q : Nat} (hq : q ≠ 0) (h1 : (digs p).length ≤ 16) (h2 : (digs q).length ≤ 16) (hg : gcdN p q = 1) : vfB (digs p) (digs q) = true := by
  have e : bothB (digs p) (digs q) = true := bothB_yes_ (Sm.valid h1) (Sm.valid h2)
  simp [vfB, e, digs_ne hq, val_digs, hg]
theorem low_vf {x y : Nat} (hy : y ≠ 0) (h1 : Sm x) (h2 : Sm y) : vfB (lowS x y).1 (lowS x y).2 = true := by
  obtain ⟨p, q, g, hg, hq, rfl, rfl, h, e⟩ := low_parts x hy
  rw [e]
  exact vf_low hq (low_len (Nat.le_mul_of_pos_right _ (Nat.pos_of_ne_zero hg)) h1) (low_len (Nat.le_mul_of_pos_right _ (Nat.pos_of_ne_zero hg)) h2) h
theorem low_cmp {x y : Nat} {p q : List Nat} (hy : y ≠ 0) (h1 : Sm x) (h2 : Sm y) (hv : vfB p q = true) : cmpFS (lowS x y).1 (lowS x y).2 p q = (cmpN (x * val q) (val p * y), 0) := by
  have hl := low_vf hy h1 h2
  unfold cmpFS
  rw [if_pos (by unfold bothF; rw [hl, hv]; rfl)]
  obtain ⟨a, b, g, hg, hb, rfl, rfl, h, e⟩ := low_parts x hy
  rw [e]
  dsimp only
  rw [val_digs, val_digs, show a * g * val q = a * val q * g from Nat.mul_right_comm _ _ _, show val p * (b * g) = val p * b * g from (Nat.mul_assoc _ _ _).symm, cmpN_scale hg]
theorem cmpN_le0 {x y : Nat} : cmpN x y ≤ 0 ↔ x ≤ y := by
  rcases cmpN_cases x y with ⟨h, e⟩ | ⟨h, e⟩ | ⟨h, e⟩ <;> rw [e] <;> constructor <;> intro <;> omega
theorem cmpN_gt0 {x y : Nat} : 0 < cmpN x y ↔ y < x := by
  rcases cmpN_cases x y with ⟨h, e⟩ | ⟨h, e⟩ | ⟨h, e⟩ <;> rw [e] <;> constructor <;> intro <;> omega
end Go.Proofs.YtenpkmgbaajeeaaGreat
