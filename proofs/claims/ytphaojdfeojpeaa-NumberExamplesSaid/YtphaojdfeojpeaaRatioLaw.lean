/-
  The plain law of ratios: lowest terms, their order, their sums and products.
-/
import Derived.Test.YtphaojdfeojpeaaFracSum
import Derived.Test.YtphaojdfeojpeaaOutAid
namespace Go.Proofs.Ytphaojdfeojpeaa
open Go.RowKit
set_option linter.unusedVariables false

theorem lowS_scale {x y k : Nat} (hk : k ≠ 0) : lowS (x * k) (y * k) = lowS x y := by
  unfold lowS gcdN
  have hk0 : 0 < k := Nat.pos_of_ne_zero hk
  rw [Nat.gcd_mul_right, Nat.mul_div_mul_right _ _ hk0, Nat.mul_div_mul_right _ _ hk0]
theorem lowS_one {p q : Nat} (h : gcdN p q = 1) : lowS p q = (digs p, digs q) := by unfold lowS; rw [h, Nat.div_one, Nat.div_one]
theorem low_parts (x : Nat) {y : Nat} (hy : y ≠ 0) : ∃ p q g, g ≠ 0 ∧ q ≠ 0 ∧ x = p * g ∧ y = q * g ∧ gcdN p q = 1 ∧ lowS x y = (digs p, digs q) := by
  have hg : Nat.gcd x y ≠ 0 := gcdN_pos_right hy
  have h1 : x / Nat.gcd x y * Nat.gcd x y = x := Nat.div_mul_cancel (Nat.gcd_dvd_left x y)
  have h2 : y / Nat.gcd x y * Nat.gcd x y = y := Nat.div_mul_cancel (Nat.gcd_dvd_right x y)
  refine ⟨x / Nat.gcd x y, y / Nat.gcd x y, Nat.gcd x y, hg, fun e => hy ?_, h1.symm, h2.symm, ?_, rfl⟩
  · rw [← h2, e, Nat.zero_mul]
  · have h3 : Nat.gcd (x / Nat.gcd x y * Nat.gcd x y) (y / Nat.gcd x y * Nat.gcd x y) = Nat.gcd x y := by rw [h1, h2]
    rw [Nat.gcd_mul_right] at h3
    exact Nat.eq_of_mul_eq_mul_right (Nat.pos_of_ne_zero hg) (by rw [Nat.one_mul]; exact h3)
theorem cmpN_zero {x y : Nat} : cmpN x y = 0 ↔ x = y := by
  rcases Nat.lt_trichotomy x y with h | h | h
  · rw [cmpN_lt h]; exact ⟨fun e => absurd e (by decide), fun e => absurd e (by omega)⟩
  · exact ⟨fun _ => h, fun _ => cmpN_eq h⟩
  · rw [cmpN_gt h]; exact ⟨fun e => absurd e (by decide), fun e => absurd e (by omega)⟩
theorem cmpN_scale {x y k : Nat} (hk : k ≠ 0) : cmpN (x * k) (y * k) = cmpN x y := by
  rcases Nat.lt_trichotomy x y with h | h | h
  · rw [cmpN_lt h, cmpN_lt ((Nat.mul_lt_mul_right (Nat.pos_of_ne_zero hk)).2 h)]
  · rw [cmpN_eq h, cmpN_eq (by rw [h])]
  · rw [cmpN_gt h, cmpN_gt ((Nat.mul_lt_mul_right (Nat.pos_of_ne_zero hk)).2 h)]
theorem digs_inj {x y : Nat} (h : digs x = digs y) : x = y := by rw [← val_digs x, ← val_digs y, h]
theorem ratio_law (a : Nat) {b : Nat} (c : Nat) {d : Nat} (hb : b ≠ 0) (hd : d ≠ 0) : ∃ p q s t, (q ≠ 0 ∧ t ≠ 0) ∧ (p ≤ a ∧ q ≤ b ∧ s ≤ c ∧ t ≤ d) ∧ (gcdN p q = 1 ∧ gcdN s t = 1) ∧ lowS a b = (digs p, digs q) ∧ lowS c d = (digs s, digs t) ∧
    cmpN (p * t) (s * q) = cmpN (a * d) (c * b) ∧ (cmpN (p * t) (s * q) = 0 ↔ (p = s ∧ q = t)) ∧ lowS (p * t + s * q) (q * t) = lowS (a * d + c * b) (b * d) ∧ lowS (p * s) (q * t) = lowS (a * c) (b * d) := by
  obtain ⟨p, q, g, hg, hq, rfl, rfl, h1, e1⟩ := low_parts a hb
  obtain ⟨s, t, h, hh, ht, rfl, rfl, h2, e2⟩ := low_parts c hd
  have hk : g * h ≠ 0 := Nat.mul_ne_zero hg hh
  have m1 : p * g * (t * h) = p * t * (g * h) := by rw [Nat.mul_mul_mul_comm]
  have m2 : s * h * (q * g) = s * q * (g * h) := by rw [Nat.mul_mul_mul_comm, Nat.mul_comm h g]
  have m3 : q * g * (t * h) = q * t * (g * h) := by rw [Nat.mul_mul_mul_comm]
  have m4 : p * g * (s * h) = p * s * (g * h) := by rw [Nat.mul_mul_mul_comm]
  have le : ∀ {x k : Nat}, k ≠ 0 → x ≤ x * k := fun hk => Nat.le_mul_of_pos_right _ (Nat.pos_of_ne_zero hk)
  refine ⟨p, q, s, t, ⟨hq, ht⟩, ⟨le hg, le hg, le hh, le hh⟩, ⟨h1, h2⟩, e1, e2, ?_, ?_, ?_, ?_⟩
  · rw [m1, m2, cmpN_scale hk]
  · rw [cmpN_zero]
    constructor
    · intro e
      have h3 : lowS p q = lowS s t := by
        rw [← lowS_scale (x := p) (y := q) ht, ← lowS_scale (x := s) (y := t) hq, e, Nat.mul_comm t q]
      rw [lowS_one h1, lowS_one h2] at h3
      injection h3 with h4 h5
      exact ⟨digs_inj h4, digs_inj h5⟩
    · rintro ⟨rfl, rfl⟩; rfl
  · rw [m1, m2, m3, ← Nat.add_mul, lowS_scale hk]
  · rw [m4, m3, lowS_scale hk]

/-- What the law needs of two ratios' digits. -/
theorem low_len {a b n : Nat} (h : a ≤ b) (hb : (digs b).length ≤ n) : (digs a).length ≤ n := Nat.le_trans (digs_len_mono h) hb
theorem vf_low {p q : Nat} (hq : q ≠ 0) (h1 : (digs p).length ≤ 16) (h2 : (digs q).length ≤ 16) (hg : gcdN p q = 1) : vfB (digs p) (digs q) = true := by
  have e : bothB (digs p) (digs q) = true := bothB_yes (validB_of h1) (validB_of h2)
  simp [vfB, e, digs_ne hq, val_digs, hg]
theorem bndS_low {l : List Nat × List Nat} (h1 : l.1.length ≤ 16) (h2 : l.2.length ≤ 16) : bndS l = (l, 0) := by unfold bndS; rw [if_pos ⟨h1, h2⟩]
theorem lowS_len {x y n : Nat} (h1 : (digs x).length ≤ n) (h2 : (digs y).length ≤ n) : (lowS x y).1.length ≤ n ∧ (lowS x y).2.length ≤ n := ⟨Nat.le_trans (digs_len_mono (Nat.div_le_self _ _)) h1, Nat.le_trans (digs_len_mono (Nat.div_le_self _ _)) h2⟩
theorem ratS_v {a b : List Nat} (h1 : validB a = true) (h2 : validB b = true) (hb : b ≠ []) : ratS a b = (lowS (val a) (val b), 0) := by rw [ratS, bothB_yes h1 h2, if_pos rfl, if_neg hb]
theorem same_low {p q s t : Nat} : (sameB (digs p) (digs s) && sameB (digs q) (digs t)) = decide (p = s ∧ q = t) := by
  by_cases h1 : p = s
  · by_cases h2 : q = t
    · rw [sameB_yes (by rw [h1]), sameB_yes (by rw [h2])]; simp [h1, h2]
    · rw [sameB_no (a := digs q) (fun e => h2 (digs_inj e))]; simp [h2]
  · rw [sameB_no (a := digs p) (fun e => h1 (digs_inj e))]; simp [h1]
theorem ratio_facts {a b c d : List Nat} (va : validB a = true) (vb : validB b = true) (vc : validB c = true) (vd : validB d = true) (da : Dig a) (db : Dig b) (dc : Dig c) (dd : Dig d) (la : a.length ≤ 4) (lb : b.length ≤ 4) (lc : c.length ≤ 4) (ld : d.length ≤ 4) (nb : b ≠ []) (nd : d ≠ []) :
    ∃ (p q s t ad cb bd ac sm : List Nat) (u v : List Nat × List Nat) (Q : Int), ratS a b = ((p, q), 0) ∧ ratS c d = ((s, t), 0) ∧ mulS a d = (ad, 0) ∧ mulS c b = (cb, 0) ∧ mulS b d = (bd, 0) ∧ mulS a c = (ac, 0) ∧ addS ad cb = (sm, 0) ∧ cfS p q = 0 ∧ cfS s t = 0 ∧
      cmpFS p q s t = (Q, 0) ∧ cmpS ad cb = (Q, 0) ∧ (sameB p s && sameB q t) = (Q == 0) ∧ addFS p q s t = (u, 0) ∧ ratS sm bd = (u, 0) ∧ mulFS p q s t = (v, 0) ∧ ratS ac bd = (v, 0) := by
  have hb : val b ≠ 0 := val_ne_of (valid_dig vb).1 nb
  have hd : val d ≠ 0 := val_ne_of (valid_dig vd).1 nd
  have M1 : (digs (val a * val d)).length ≤ 8 := times_len da dd la ld
  have M2 : (digs (val c * val b)).length ≤ 8 := times_len dc db lc lb
  have M3 : (digs (val b * val d)).length ≤ 8 := times_len db dd lb ld
  have M4 : (digs (val a * val c)).length ≤ 8 := times_len da dc la lc
  have M6 : (digs (val a * val d + val c * val b)).length ≤ 9 := plus_len M1 M2
  have hbd : val b * val d ≠ 0 := Nat.mul_ne_zero hb hd
  obtain ⟨p, q, s, t, ⟨hq, ht⟩, ⟨pa, qb, sc, td⟩, ⟨g1, g2⟩, e1, e2, e3, e4, e5, e6⟩ := ratio_law (val a) (val c) hb hd
  have lp : (digs p).length ≤ 16 := low_len pa (by rw [valid_digs va da]; omega)
  have lq : (digs q).length ≤ 16 := low_len qb (by rw [valid_digs vb db]; omega)
  have ls : (digs s).length ≤ 16 := low_len sc (by rw [valid_digs vc dc]; omega)
  have lt : (digs t).length ≤ 16 := low_len td (by rw [valid_digs vd dd]; omega)
  have f1 := vf_low hq lp lq g1
  have f2 := vf_low ht ls lt g2
  have fb : bothF (digs p) (digs q) (digs s) (digs t) = true := by unfold bothF; rw [f1, f2]; rfl
  obtain ⟨n1, n2⟩ := lowS_len (n := 16) (show (digs (val a * val d + val c * val b)).length ≤ 16 by omega) (show (digs (val b * val d)).length ≤ 16 by omega)
  obtain ⟨n3, n4⟩ := lowS_len (n := 16) (show (digs (val a * val c)).length ≤ 16 by omega) (show (digs (val b * val d)).length ≤ 16 by omega)
  refine ⟨digs p, digs q, digs s, digs t, digs (val a * val d), digs (val c * val b), digs (val b * val d), digs (val a * val c), digs (val a * val d + val c * val b), lowS (val a * val d + val c * val b) (val b * val d), lowS (val a * val c) (val b * val d), cmpN (val a * val d) (val c * val b), ?_, ?_, ?_, ?_, ?_, ?_, ?_, cfS_yes f1, cfS_yes f2, ?_, ?_, ?_, ?_, ?_, ?_, ?_⟩
  · rw [ratS_v va vb nb, e1]
  · rw [ratS_v vc vd nd, e2]
  · rw [mulS_v va vd, limS_yes (by omega)]
  · rw [mulS_v vc vb, limS_yes (by omega)]
  · rw [mulS_v vb vd, limS_yes (by omega)]
  · rw [mulS_v va vc, limS_yes (by omega)]
  · rw [addS_digs (by omega) (by omega), limS_yes (by omega)]
  · rw [cmpFS, if_pos fb]; simp only [val_digs]; rw [e3]
  · rw [cmpS_v (validB_of (by omega)) (validB_of (by omega)), val_digs, val_digs]
  · rw [same_low, ← e3]
    by_cases h : p = s ∧ q = t
    · rw [e4.2 h, decide_eq_true h]; rfl
    · rw [decide_eq_false h]
      exact (beq_eq_false_iff_ne.2 (fun e => h (e4.1 e))).symm
  · rw [addFS_yes fb]; simp only [val_digs]; rw [e5, bndS_low n1 n2]
  · rw [ratS_digs (by omega) (by omega) hbd]
  · rw [mulFS_yes fb]; simp only [val_digs]; rw [e6, bndS_low n3 n4]
  · rw [ratS_digs (by omega) (by omega) hbd]
end Go.Proofs.Ytphaojdfeojpeaa
