/-
  Lemmas and contracts, joined.
-/
import Derived.Deep.RegionHeld3
import Derived.Shelf.Abstract
import Derived.Test.YtchnaimpmegbkaaGreatDoorTqTp1
import Derived.Test.YtchnaimpmegbkaaGreatDoorTqTl2
import Derived.Test.YtchnaimpmegbkaaGreatDoorTqTn4
set_option linter.unusedSimpArgs false
set_option linter.unusedVariables false
set_option linter.unnecessarySimpa false
/- The columns' order: the reference's. -/
namespace Go.Proofs.YtchnaimpmegbkaaGreatDoor
open Go.RowKit
set_option linter.unusedVariables false
set_option linter.unusedSimpArgs false

end Go.Proofs.YtchnaimpmegbkaaGreatDoor

/- Words, weights and names of a code of steps: the reference's. -/
namespace Go.Proofs.YtchnaimpmegbkaaGreatDoor
open Go.RowKit
set_option linter.unusedVariables false
set_option linter.unusedSimpArgs false

end Go.Proofs.YtchnaimpmegbkaaGreatDoor

/- The names of a code of steps: the reference's. -/
namespace Go.Proofs.YtchnaimpmegbkaaGreatDoor
open Go.RowKit
set_option linter.unusedVariables false
set_option linter.unusedSimpArgs false

end Go.Proofs.YtchnaimpmegbkaaGreatDoor

/- Words, weights and names asked of a code of steps: the reference's; lists of ints compared. -/
namespace Go.Proofs.YtchnaimpmegbkaaGreatDoor
open Go.RowKit
set_option linter.unusedVariables false
set_option linter.unusedSimpArgs false

end Go.Proofs.YtchnaimpmegbkaaGreatDoor

/- Comparisons, sums and products of fractions: the program's and the reference's. -/
namespace Go.Proofs.YtchnaimpmegbkaaGreatDoor
open Go.RowKit
set_option linter.unusedVariables false

def bothF (a b c d : List Nat) : Bool := vfB a b && vfB c d
def cmpFS (a b c d : List Nat) : Int × Int := if bothF a b c d = true then (cmpN (val a * val d) (val c * val b), 0) else (0, 8)
/-- Two fractions of the call's own. -/
def Fr2 (W : World) (g : Nat) (u0 u1 v0 v1 : Value) : Prop := Bx W g u0 u1 ∧ Bx W (g + 1) v0 v1
theorem Fr2.below {w w' : World} {g : Nat} {u0 u1 v0 v1 : Value} (h : Fr2 w g u0 u1 v0 v1) (k : Below w.heap.size w w') : Fr2 w' g u0 u1 v0 v1 := ⟨h.1.below k, h.2.below k⟩
theorem Fr2.new (w : World) (u0 u1 v0 v1 : Value) : Fr2 ((w.alloc (.cells #[u0, u1] 27)).alloc (.cells #[v0, v1] 27)) w.heap.size u0 u1 v0 v1 := by
  refine ⟨(Bx.new _ _ _).below (alloc_below _ _), ?_⟩
  have := Bx.new (w.alloc (.cells #[u0, u1] 27)) v0 v1
  rw [World.size_alloc] at this
  exact this
theorem Fr2.cells {w : World} {g : Nat} {u0 u1 v0 v1 : Value} (h : Fr2 w g u0 u1 v0 v1) : w.cell? ⟨g, 0, none⟩ = some u0 ∧ w.cell? ⟨g, 1, none⟩ = some u1 ∧ w.cell? ⟨g + 1, 0, none⟩ = some v0 ∧ w.cell? ⟨g + 1, 1, none⟩ = some v1 := by
  obtain ⟨a, b, _, _⟩ := h.1.cells
  obtain ⟨c, d, _, _⟩ := h.2.cells
  exact ⟨a, b, c, d⟩
theorem Fr2.lt {w : World} {g : Nat} {u0 u1 v0 v1 : Value} (h : Fr2 w g u0 u1 v0 v1) : g + 1 < w.heap.size := h.2.lt

end Go.Proofs.YtchnaimpmegbkaaGreatDoor

/- Fractions in lowest terms: compared and added, in plain words. -/
namespace Go.Proofs.YtchnaimpmegbkaaGreatDoor
open Go.RowKit
set_option linter.unusedVariables false

theorem low_parts (x : Nat) {y : Nat} (hy : y ≠ 0) : ∃ p q g, g ≠ 0 ∧ q ≠ 0 ∧ x = p * g ∧ y = q * g ∧ gcdN p q = 1 ∧ lowS x y = (digs p, digs q) := by
  have hg : Nat.gcd x y ≠ 0 := gcdN_pos_right hy
  have h1 : x / Nat.gcd x y * Nat.gcd x y = x := Nat.div_mul_cancel (Nat.gcd_dvd_left x y)
  have h2 : y / Nat.gcd x y * Nat.gcd x y = y := Nat.div_mul_cancel (Nat.gcd_dvd_right x y)
  refine ⟨x / Nat.gcd x y, y / Nat.gcd x y, Nat.gcd x y, hg, fun e => hy ?_, h1.symm, h2.symm, ?_, rfl⟩
  · rw [← h2, e, Nat.zero_mul]
  · have h3 : Nat.gcd (x / Nat.gcd x y * Nat.gcd x y) (y / Nat.gcd x y * Nat.gcd x y) = Nat.gcd x y := by rw [h1, h2]
    rw [Nat.gcd_mul_right] at h3
    exact Nat.eq_of_mul_eq_mul_right (Nat.pos_of_ne_zero hg) (by rw [Nat.one_mul]; exact h3)
theorem cmpN_scale {x y k : Nat} (hk : k ≠ 0) : cmpN (x * k) (y * k) = cmpN x y := by
  rcases Nat.lt_trichotomy x y with h | h | h
  · rw [cmpN_lt h, cmpN_lt ((Nat.mul_lt_mul_right (Nat.pos_of_ne_zero hk)).2 h)]
  · rw [cmpN_eq h, cmpN_eq (by rw [h])]
  · rw [cmpN_gt h, cmpN_gt ((Nat.mul_lt_mul_right (Nat.pos_of_ne_zero hk)).2 h)]
theorem low_len {a b n : Nat} (h : a ≤ b) (hb : (digs b).length ≤ n) : (digs a).length ≤ n := Nat.le_trans (digs_len_mono h) hb
theorem bothB_yes_ {a b : List Nat} (h1 : validB a = true) (h2 : validB b = true) : bothB a b = true := by unfold bothB; rw [h1, h2]; rfl
theorem vf_low {p q : Nat} (hq : q ≠ 0) (h1 : (digs p).length ≤ 16) (h2 : (digs q).length ≤ 16) (hg : gcdN p q = 1) : vfB (digs p) (digs q) = true := by
  have e : bothB (digs p) (digs q) = true := bothB_yes_ (Sm.valid h1) (Sm.valid h2)
  simp [vfB, e, digs_ne hq, val_digs, hg]
theorem low_vf {x y : Nat} (hy : y ≠ 0) (h1 : Sm x) (h2 : Sm y) : vfB (lowS x y).1 (lowS x y).2 = true := by
  obtain ⟨p, q, g, hg, hq, rfl, rfl, h, e⟩ := low_parts x hy
  rw [e]
  exact vf_low hq (low_len (Nat.le_mul_of_pos_right _ (Nat.pos_of_ne_zero hg)) h1) (low_len (Nat.le_mul_of_pos_right _ (Nat.pos_of_ne_zero hg)) h2) h
theorem low_cmp {x y : Nat} {p q : List Nat} (hy : y ≠ 0) (h1 : Sm x) (h2 : Sm y) (hv : vfB p q = true) : cmpFS (lowS x y).1 (lowS x y).2 p q = (cmpN (x * val q) (val p * y), 0) := by
  have hl := low_vf hy h1 h2
  unfold cmpFS
  rw [if_pos (by unfold bothF; rw [hl, hv]; rfl)]
  obtain ⟨a, b, g, hg, hb, rfl, rfl, h, e⟩ := low_parts x hy
  rw [e]
  dsimp only
  rw [val_digs, val_digs, show a * g * val q = a * val q * g from Nat.mul_right_comm _ _ _, show val p * (b * g) = val p * b * g from (Nat.mul_assoc _ _ _).symm, cmpN_scale hg]
theorem cmpN_le0 {x y : Nat} : cmpN x y ≤ 0 ↔ x ≤ y := by
  rcases cmpN_cases x y with ⟨h, e⟩ | ⟨h, e⟩ | ⟨h, e⟩ <;> rw [e] <;> constructor <;> intro <;> omega
theorem cmpN_gt0 {x y : Nat} : 0 < cmpN x y ↔ y < x := by
  rcases cmpN_cases x y with ⟨h, e⟩ | ⟨h, e⟩ | ⟨h, e⟩ <;> rw [e] <;> constructor <;> intro <;> omega
end Go.Proofs.YtchnaimpmegbkaaGreatDoor

/- A lone pirate, in plain words. -/
namespace Go.Proofs.YtchnaimpmegbkaaGreatDoor
open Go.RowKit
set_option linter.unusedVariables false
set_option linter.unusedSimpArgs false

theorem bin_sm {d : Nat} (h : d ≤ 64) : Sm (bin (2 * d) d) := sm_bin (by omega)
theorem bin_ne (d : Nat) : bin (2 * d) d ≠ 0 := by have := bin_pos (a := 2 * d) (b := d) (by omega); omega
theorem divs_sm {d k X : Nat} (hd : d ≤ 64) (hk : k ≤ 2 * d) (hX : X ≤ k + 1) : Sm (divsN d k X) := (bin_sm hd).mono (by have := divsN_sym hk hX; omega)
/-- The tail of the threshold is at most the limit, and that of the next number is above it. -/
theorem thr_tails {s : StV} (hok : s.ok = true) {d K : Nat} (hd : s.b = (d : Int)) (hK : K ≤ 2 * d) : ∃ X : Nat, s.th K + 1 = (X : Int) ∧ X + 1 ≤ K + 1 ∧ -1 ≤ s.th K ∧ s.th K < K ∧
    cmpFS (lowS (divsN d K X) (bin (2 * d) d)).1 (lowS (divsN d K X) (bin (2 * d) d)).2 s.x s.y = (cmpN (divsN d K X * val s.y) (val s.x * bin (2 * d) d), 0) ∧ cmpN (divsN d K X * val s.y) (val s.x * bin (2 * d) d) ≤ 0 ∧
    cmpFS (lowS (divsN d K (X + 1)) (bin (2 * d) d)).1 (lowS (divsN d K (X + 1)) (bin (2 * d) d)).2 s.x s.y = (cmpN (divsN d K (X + 1) * val s.y) (val s.x * bin (2 * d) d), 0) ∧ 0 < cmpN (divsN d K (X + 1) * val s.y) (val s.x * bin (2 * d) d) := by
  obtain ⟨⟨q1, q2, q3, q4⟩, hl⟩ := StV.parts hok
  obtain ⟨hv, h2, h3, h4⟩ := limB_iff.1 hl
  have e : s.th K = thS d K (val s.x) (val s.y) := by unfold StV.th; rw [hd, Int.toNat_natCast]
  have h5 := thS_ge d K (val s.x) (val s.y)
  have h6 := thS_lt hK h4
  have h7 := thS_over h6
  rw [e]
  obtain ⟨X, hX⟩ : ∃ X : Nat, thS d K (val s.x) (val s.y) + 1 = (X : Int) := ⟨(thS d K (val s.x) (val s.y) + 1).toNat, by omega⟩
  rw [show (thS d K (val s.x) (val s.y) + 2).toNat = X + 1 from by omega] at h7
  refine ⟨X, hX, by omega, h5, h6, low_cmp (bin_ne d) (divs_sm (by omega) hK (by omega)) (bin_sm (by omega)) hv, cmpN_le0.2 ?_, low_cmp (bin_ne d) (divs_sm (by omega) hK (by omega)) (bin_sm (by omega)) hv, cmpN_gt0.2 h7⟩
  cases X with
  | zero => simp [divsN, sumN]
  | succ X => exact thS_under (by omega)
theorem StV.word_bit (s : StV) (x i : Nat) : bt (s.word x) i ≤ 1 := wordF_bit _ _ _ _ _
theorem StV.word_cp (s : StV) (x : Nat) : copyB (s.word x) s.n = true := by
  unfold copyB
  rw [Bool.and_eq_true, decide_eq_true_eq]
  exact ⟨s.word_len x, symB_iff.2 fun i _ => Nat.le_trans (s.word_bit x i) (by omega)⟩
theorem namesF_none {P : Nat → Bool} : ∀ {n : Nat}, (∀ x, x < n → P x = false) → namesF P n = []
  | 0, _ => rfl
  | n + 1, h => by rw [namesF_no (h n (by omega)), namesF_none fun x hx => h x (by omega)]
theorem namesF_one {P : Nat → Bool} {u : Nat} (h1 : P u = true) : ∀ {n : Nat}, u < n → (∀ x, x < n → x ≠ u → P x = false) → namesF P n = [(u : Int)]
  | 0, h, _ => absurd h (by omega)
  | n + 1, h, h2 => by
    by_cases e : n = u
    · subst e
      rw [namesF_yes h1, namesF_none fun x hx => h2 x (by omega) (by omega)]; rfl
    · rw [namesF_no (h2 n (by omega) e)]
      exact namesF_one h1 (by omega) fun x hx => h2 x (by omega)
theorem lone_wts {s : StV} (hok : s.ok = true) {d m : Nat} (hd : s.b = (d : Int)) (hu : s.u = ((m + 1 : Nat) : Int)) (hn : s.n = m * d) (h1 : 1 ≤ d) (x : Nat) {b : Nat} (hb : b < m) : (s.wts (s.word x)).getD b 0 = if x ≤ b then d else 0 := by
  obtain ⟨hn1, hn2, -⟩ := StV.n_le hok
  have ha : ArrL s.at_ (m * d) := by rw [← hn]; exact s.arr (by omega)
  unfold StV.wts StV.word
  rw [hd, hu, Int.toNat_natCast, Int.toNat_natCast, Nat.add_sub_cancel, hn]
  exact word_weights ha (by omega) hb
theorem full_low {s : StV} (hok : s.ok = true) {d : Nat} (hd : s.b = (d : Int)) : s.th (2 * d) < d := by
  obtain ⟨⟨q1, q2, q3, q4⟩, hl⟩ := StV.parts hok
  obtain ⟨hv, h2, h3, h4⟩ := limB_iff.1 hl
  obtain ⟨X, hX, hX2, t1, t2, -, r2, -, -⟩ := thr_tails hok hd (show 2 * d ≤ 2 * d from Nat.le_refl _)
  apply Classical.byContradiction
  intro hno
  have hXd : d + 1 ≤ X := by omega
  have h5 : bin (2 * d) d ≤ divsN d (2 * d) X := by
    refine Nat.le_trans ?_ (sumN_mono _ hXd)
    rw [sumN_succ]
    have e : pick (2 * d) (2 * d - 2 * d) d d = bin (2 * d) d := by unfold pick; rw [if_pos (Nat.le_refl _), Nat.sub_self, Nat.sub_self, bin_zero, Nat.mul_one]
    rw [e]
    exact Nat.le_add_left _ _
  have h6 := cmpN_le0.1 r2
  have h7 : 0 < bin (2 * d) d := by have := bin_ne d; omega
  have h8 : bin (2 * d) d * val s.y ≤ val s.x * bin (2 * d) d := Nat.le_trans (Nat.mul_le_mul_right _ h5) h6
  rw [Nat.mul_comm (val s.x)] at h8
  have := Nat.le_of_mul_le_mul_left h8 h7
  omega
theorem lone_names {s : StV} (hok : s.ok = true) {d m : Nat} (hd : s.b = (d : Int)) (hu : s.u = ((m + 1 : Nat) : Int)) (hn : s.n = m * d) (h1 : 1 ≤ d) (hm : 1 ≤ m) {x : Nat} (hx : x ≤ m) (hth : 0 ≤ s.th d) : s.nms (s.word x) = [(x : Int)] := by
  obtain ⟨⟨q1, q2, q3, q4⟩, hl⟩ := StV.parts hok
  obtain ⟨hv, h2, h3, h4⟩ := limB_iff.1 hl
  have hw : ∀ b, b < m → (s.wts (s.word x)).getD b 0 = if x ≤ b then d else 0 := fun b hb => lone_wts hok hd hu hn h1 x hb
  have hfull := full_low hok hd
  have hzero : s.th 0 < 0 := by
    unfold StV.th
    exact thS_lt (by omega) h4
  unfold StV.th at hfull hzero hth
  rw [hd, Int.toNat_natCast] at hfull hzero hth
  unfold StV.nms StV.nmsW namesS
  rw [hu, hd, Int.toNat_natCast, Int.toNat_natCast]
  generalize s.wts (s.word x) = w at *
  have hP : ∀ y, y < m + 1 → namedB (m + 1) d (val s.x) (val s.y) w y = decide (y = x) := fun y hy => by
    unfold namedB
    by_cases e0 : y = 0
    · subst e0
      rw [if_pos rfl, hw 0 (by omega)]
      by_cases e : x = 0
      · subst e; simp; omega
      · rw [if_neg (by omega)]; simp; omega
    · rw [if_neg e0]
      by_cases e1 : y + 1 = m + 1
      · rw [if_pos e1, hw (y - 1) (by omega)]
        by_cases e : x ≤ y - 1
        · rw [if_pos e]; simp; omega
        · rw [if_neg e]; simp; omega
      · rw [if_neg e1, hw (y - 1) (by omega), hw y (by omega)]
        by_cases e : x ≤ y - 1
        · rw [if_pos e, if_pos (by omega), show d + d = 2 * d by omega, decide_eq_false (by omega), decide_eq_false (by omega)]
        · rw [if_neg e]
          by_cases e2 : x ≤ y
          · rw [if_pos e2, Nat.zero_add, decide_eq_true (by omega), decide_eq_true (by omega)]
          · rw [if_neg e2, Nat.zero_add, decide_eq_false (by omega), decide_eq_false (by omega)]
  exact namesF_one (by rw [hP x (by omega)]; simp) (by omega) fun y hy hne => by rw [hP y hy]; simp [hne]
end Go.Proofs.YtchnaimpmegbkaaGreatDoor

/- Whether a copy is feasible: the plain words; the program. -/
namespace Go.Proofs.YtchnaimpmegbkaaGreatDoor
open Go.RowKit Go.Shelf
set_option linter.unusedVariables false

def hd (ls : List (List UInt8)) : List UInt8 := ls.getD 0 []
theorem wordB_len {l : List UInt8} {n : Nat} (h : wordB l n = true) : l.length = n := by
  simp only [wordB, Bool.and_eq_true, decide_eq_true_eq] at h
  exact h.1
theorem row_l {rs : List BRow} {i : Nat} {r : BRow} (h : rs[i]? = some r) : (rs.map BRow.l).getD i [] = r.l := by simp [List.getD, h]
theorem RR.at_ {w : World} {A : Option Addr} {c : Nat} {rs : List BRow} (h : RR w A c rs) {i : Nat} (hi : i < rs.length) :
    ∃ b off r, A = some ⟨b, off, none⟩ ∧ b < w.heap.size ∧ rs[i]? = some r ∧ w.cell? ⟨b, off + i, none⟩ = some (.slice r.A r.l.length r.c) ∧ BR w r.A r.c r.l := by
  obtain ⟨b, off, e, hb, v, hv, hc⟩ := Rd.at1 h.1 hi
  have hr : rs[i]? = some rs[i] := List.getElem?_eq_getElem hi
  rw [List.getElem?_map, hr] at hv
  injection hv with hv
  subst hv
  exact ⟨b, off, rs[i], e, hb, hr, hc, h.2 _ (List.getElem_mem hi)⟩
theorem RR.below {w w' : World} {A : Option Addr} {c : Nat} {rs : List BRow} (h : RR w A c rs) (hb : Below w.heap.size w w') : RR w' A c rs := ⟨h.1.below hb, fun r hr => (h.2 r hr).below hb⟩

theorem copyB_len {l : List UInt8} {n : Nat} (h : copyB l n = true) : l.length = n := by
  simp only [copyB, Bool.and_eq_true, decide_eq_true_eq] at h
  exact h.1
end Go.Proofs.YtchnaimpmegbkaaGreatDoor

/- Copies brought to what a coalition's words have in common: in plain words. -/
namespace Go.Proofs.YtchnaimpmegbkaaGreatDoor
open Go.RowKit
set_option linter.unusedVariables false
set_option linter.unusedSimpArgs false

theorem wordB_sym {l : List UInt8} {n : Nat} (h : wordB l n = true) : l.length = n ∧ ∀ i, i < n → bt l i ≤ 1 := by
  simp only [wordB, Bool.and_eq_true, decide_eq_true_eq] at h
  exact ⟨h.1, fun i hi => symB_iff.1 h.2 i (by omega)⟩

end Go.Proofs.YtchnaimpmegbkaaGreatDoor
